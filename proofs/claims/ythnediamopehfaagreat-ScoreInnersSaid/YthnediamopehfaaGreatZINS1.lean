/- Part of the proof: what the claim leans on. -/
import Derived.Test.YthnediamopehfaaGreatZINX
import Derived.Deep.AppendLies
set_option linter.unusedSimpArgs false
set_option linter.unusedVariables false
namespace Go.Proofs.YthnediamopehfaaGreat
open Go.RowKit
theorem tail_value2 {P : Program} {ops : Array Oper} {Q : Exit → Act → World → Prop} {i m N d : Nat} {g : Nat → Value} {W W' : World} {o : Oper} {v : Value} (ho : ops[i]? = some o) (hg : o.guard = none) (hd : o.dst = some d) (hr : (execOp (fr N g).eval o).run P W = .ok (.value v) W')
    (h : wpOps P ops Q (List.range' (i + 1) m) (fr N (upd g d v)) W') : wpOps P ops Q (List.range' i (m + 1)) (fr N g) W := by
  rw [List.range'_succ, wpOps_cons]
  unfold wpOp
  simp only [ho, Region.wanted, hg, if_true]
  refine .inl ?_
  unfold Oper.wp
  rw [hr]
  simp only [Oper.upon, hd]
  rw [fr_put]; exact h
/-- A list of one's own: it lies from block B on. -/
def OwnI (B : Nat) (xs : List Int) (g c : Nat) (W : World) : Prop := B ≤ g ∧ g < W.heap.size ∧ W.ownsRow B 3 1 (.slice (some ⟨g, 0, none⟩) xs.length c) xs.length (xs.map (Value.int .i64))
theorem OwnI.ii {B : Nat} {xs : List Int} {g c : Nat} {W : World} (h : OwnI B xs g c W) : Ii W (some ⟨g, 0, none⟩) xs.length c xs := owns_ii h.2.2
theorem OwnI.below {B : Nat} {xs : List Int} {g c : Nat} {W W' : World} (h : OwnI B xs g c W) (hb : Below W.heap.size W W') : OwnI B xs g c W' := by
  refine ⟨h.1, Nat.lt_of_lt_of_le h.2.1 hb.size, h.2.2.1, ?_⟩
  rcases h.2.2.2 with h4 | ⟨g', cap, cur, e, h5, h6, h7⟩
  · exact .inl h4
  · exact .inr ⟨g', cap, cur, e, h5, blk_below h6 hb, h7⟩
theorem OwnI.other {B b : Nat} {xs : List Int} {g c : Nat} {W W' : World} (h : OwnI B xs g c W) (hot : ∀ k x, k ≠ b → W.heap[k]? = some x → W'.heap[k]? = some x) (hne : g ≠ b) (hz : W.heap.size ≤ W'.heap.size) : OwnI B xs g c W' := by
  refine ⟨h.1, Nat.lt_of_lt_of_le h.2.1 hz, h.2.2.1, ?_⟩
  rcases h.2.2.2 with h4 | ⟨g', cap, cur, e, h5, h6, h7⟩
  · exact .inl h4
  · cases e
    exact .inr ⟨g, c, cur, rfl, h5, hot _ _ hne h6, h7⟩
end Go.Proofs.YthnediamopehfaaGreat
namespace Go.Proofs.YthnediamopehfaaGreat
open Go.RowKit
/-- A list whose block is the call's own, from B on. -/
def OwI (B : Nat) (xs : List Int) (n : Nat) (v : Value) (W : World) : Prop := ∃ g c, v = .slice (some ⟨g, 0, none⟩) n c ∧ OwnI B xs g c W
theorem OwI.below {B n : Nat} {xs : List Int} {v : Value} {W W' : World} (h : OwI B xs n v W) (hb : Below W.heap.size W W') : OwI B xs n v W' := by
  obtain ⟨g, c, e, h⟩ := h
  exact ⟨g, c, e, h.below hb⟩
theorem OwI.lt {B n : Nat} {xs : List Int} {v : Value} {W : World} (h : OwI B xs n v W) {g m c : Nat} (e : v = .slice (some ⟨g, 0, none⟩) m c) : g < W.heap.size := by
  obtain ⟨g', c', e', h⟩ := h
  rw [e] at e'
  simp only [Value.slice.injEq, Option.some.injEq, Addr.mk.injEq, and_true] at e'
  obtain ⟨rfl, -⟩ := e'
  exact h.2.1
theorem OwnI.lim {B : Nat} {xs : List Int} {g c : Nat} {W : World} (h : OwnI B xs g c W) : B ≤ g ∧ g < W.heap.size := ⟨h.1, h.2.1⟩
/-- What two operations made lies apart. -/
theorem Behind.two {R : Nat → Value → (Nat → Nat) → World → Prop} {w : World} {n : Nat} {f : Nat → Value} {s : Nat → Nat} {W : World} (h : Behind R w n f s W) (i j : Nat) (hi : i < n) (hj : j < n) (hij : i ≠ j) {g g' : Nat}
    (hg : s i ≤ g) (hg' : s j ≤ g') (h1 : ∀ W, R i (f i) s W → g < W.heap.size) (h2 : ∀ W, R j (f j) s W → g' < W.heap.size) : g ≠ g' := by
  obtain ⟨t, ht, hd⟩ := h.apart
  obtain ⟨a, b, W1, r1, z1⟩ := ht i hi
  obtain ⟨c, d, W2, r2, z2⟩ := ht j hj
  have := h1 _ r1; have := h2 _ r2
  have := hd i j hi hj hij
  omega
theorem ownsRow_low {W : World} {B B' : Nat} {T : TypeId} {z n : Nat} {v : Value} {xs : List Value} (h : W.ownsRow B T z v n xs) (hB : B' ≤ B) : W.ownsRow B' T z v n xs := by
  refine ⟨h.1, ?_⟩
  rcases h.2 with h | ⟨g, cap, cur, e, h1, h2⟩
  · exact .inl h
  · exact .inr ⟨g, cap, cur, e, Nat.le_trans hB h1, h2⟩
theorem OwnI.low {B B' : Nat} {xs : List Int} {g c : Nat} {W : World} (h : OwnI B xs g c W) (hB : B' ≤ B) : OwnI B' xs g c W := ⟨Nat.le_trans hB h.1, h.2.1, ownsRow_low h.2.2 hB⟩
/-- append([]int{}, l...), where l is not empty: the copy is one's own, in a new block. -/
theorem cloneO_run (ty : TypeId) (W : World) (g : Nat) (a : Option Addr) (c : Nat) (xs : List Int) (n : Nat) (h : Ii W a n c xs) (hn : n ≤ 1000) (hne : 0 < n) (hg : W.heap[g]? = some (.cells #[] 3 (0, 0))) :
    ∃ v W', (Builtin.append_ #[22, 22] ty #[.slice (some ⟨g, 0, none⟩) 0 0, .slice a n c]).run Tryz.prog W = .ok v W' ∧ Below W.heap.size W W' ∧ OwI W.heap.size xs n v W' := by
  obtain ⟨i0, hi, hz0, hz1, hz2⟩ := info_parts Tryz.info3x
  have hg' : g < W.heap.size := lt_of_blk hg
  obtain rfl := h.1
  obtain ⟨b, off, rfl, hb, hc⟩ := h.at hne
  obtain ⟨v, W', hr, hown, hgr⟩ := run_append_arg_grows (P := Tryz.prog) W 22 ty 3 i0 (.int .i64 0) 1 8 Tryz.underlying22 hi hz0 hz1 hz2 rfl (by decide) ⟨g, 0, none⟩ 0 0 [] rfl (fun j u hj => by simp at hj) ⟨b, off, none⟩ xs.length c (xs.map (Value.int .i64)) (by simp)
    (fun j u hj => by
      have hj' : j < xs.length := by
        rcases Nat.lt_or_ge j xs.length with h' | h'
        · exact h'
        · rw [List.getElem?_eq_none (by simpa using h')] at hj; cases hj
      rw [show ((⟨b, off, none⟩ : Addr).add j) = ⟨b, off + j, none⟩ from by unfold Addr.add; split <;> simp_all, hc j hj']
      simp [List.getElem?_map, hj'] at hj
      subst hj
      simp [List.getD_eq_getElem?_getD, hj'])
    (by omega) (by unfold maxLen; omega) (by omega)
  obtain ⟨g2, cap2, rfl⟩ := Joins.ownsRow_form hown (by omega)
  simp only [Nat.zero_add, List.nil_append] at hown hr
  exact ⟨_, W', hr, (Below.refl _ _).grown hgr (Nat.le_refl _) (fun k e => by cases e), g2, cap2, rfl, own_ge hown g2 rfl, own_lt' hown, hown⟩
theorem take_set_cells {cs : List Value} {xs : List Int} (h : cs.take xs.length = xs.map (Value.int .i64)) (i : Nat) (hi : i < xs.length) (x : Int) (hl : xs.length ≤ cs.length) :
    (cs.take i ++ [Value.int .i64 x] ++ cs.drop (i + 1)).take xs.length = (xs.set i x).map (Value.int .i64) := by
  have e : cs.take i ++ [Value.int .i64 x] ++ cs.drop (i + 1) = cs.set i (Value.int .i64 x) := by
    rw [List.set_eq_take_append_cons_drop, if_pos (by omega)]; simp
  rw [e, List.take_set, h, List.map_set]
/-- l[i] = x, at a region's end. -/
theorem storeI_tail {w W : World} {xs : List Int} (ys : List Int) {g c : Nat} {i : Nat} {x : Int} (hi : i < xs.length) (hys : xs.set i x = ys) (hB : Below w.heap.size w W) (hown : OwnI w.heap.size xs g c W) :
    ∃ W', (∀ {a : Act} {dst : Option Nat} {tt : TypeId} {X Y : Operand} {pos : String} {af : Array Edge} {gd : Option (Nat × Bool)}, a.eval X = .pointer (some ⟨g, i, none⟩) → a.eval Y = .int .i64 x → (execOp a.eval { dst := dst, op := .store 3 X Y, type := tt, pos := pos, after := af, guard := gd }).run Tryz.prog W = .ok .skip W') ∧
      OwnI w.heap.size ys g c W' ∧ (∀ k y, k ≠ g → W.heap[k]? = some y → W'.heap[k]? = some y) ∧ W.heap.size ≤ W'.heap.size ∧ Below w.heap.size w W' := by
  subst hys
  obtain ⟨hg, hlt, hl, hr⟩ := hown
  rcases hr with ⟨h, -⟩ | ⟨g', cap, cur, e, h1, h2, h3, h4, h5, h6⟩
  · cases h
  · cases e
    simp only [Nat.mul_one] at h5 h6
    have hsz : i + 1 ≤ cur.size := by omega
    refine ⟨W.setRow g (cur.toList.take i ++ [Value.int .i64 x] ++ cur.toList.drop (i + 1)).toArray, fun hX hY => ?_, ⟨hg, ?_, ?_, .inr ⟨g, _, _, ?_, h1, setRow_heap W g cur _ _ (0, 0) h2, ?_, h4, ?_, ?_⟩⟩, fun k y hk hy => by rw [setRow_other W g k _ hk]; exact hy, by rw [setRow_size]; exact Nat.le_refl _, below_setRow hB hg _⟩
    · exact run_seg (v := .int .i64 x) rfl hX hY h2 (by kernel_rfl) (by simpa [Value.cells] using hsz) rfl (by simp [Value.cells])
    · rw [setRow_size]; exact hlt
    · simp
    · simp
    · simpa using h3
    · simp; omega
    · simp only [Nat.mul_one, List.length_set]
      rw [List.toList_toArray]
      exact take_set_cells h6 i hi x (by show xs.length ≤ cur.size; rw [h5]; exact h3)
/-- A blank whose lists are one's own, from B on. -/
def OwBlk (B : Nat) (b : Bl) (v : Value) (W : World) : Prop :=
  ∃ g1 c1 g2 c2 g3 c3, v = .agg #[.int .i64 b.tab, .slice (some ⟨g1, 0, none⟩) b.panels.length c1, .int .i64 b.height, .slice (some ⟨g2, 0, none⟩) b.top.length c2, .slice (some ⟨g3, 0, none⟩) b.bottom.length c3, .int .i64 b.slot, .bool b.isOpen] ∧
    OwnI B b.panels g1 c1 W ∧ OwnI B b.top g2 c2 W ∧ OwnI B b.bottom g3 c3 W ∧ g1 ≠ g2 ∧ g1 ≠ g3 ∧ g2 ≠ g3
theorem OwBlk.below {B : Nat} {b : Bl} {v : Value} {W W' : World} (h : OwBlk B b v W) (hb : Below W.heap.size W W') : OwBlk B b v W' := by
  obtain ⟨g1, c1, g2, c2, g3, c3, e, h1, h2, h3, hn⟩ := h
  exact ⟨g1, c1, g2, c2, g3, c3, e, h1.below hb, h2.below hb, h3.below hb, hn⟩
theorem OwBlk.lt {B : Nat} {b : Bl} {v : Value} {W : World} (h : OwBlk B b v W) {x1 x2 x3 x4 : Value} {g1 g2 g3 n1 n2 n3 c1 c2 c3 : Nat} (e : v = .agg #[x1, .slice (some ⟨g1, 0, none⟩) n1 c1, x2, .slice (some ⟨g2, 0, none⟩) n2 c2, .slice (some ⟨g3, 0, none⟩) n3 c3, x3, x4]) : g1 < W.heap.size ∧ g2 < W.heap.size ∧ g3 < W.heap.size := by
  obtain ⟨h1, d1, h2, d2, h3, d3, e', m1, m2, m3, -⟩ := h
  rw [e] at e'
  simp only [Value.agg.injEq, Array.mk.injEq, List.cons.injEq, Value.slice.injEq, Option.some.injEq, Addr.mk.injEq, and_true] at e'
  obtain ⟨-, ⟨rfl, -⟩, -, ⟨rfl, -⟩, ⟨rfl, -⟩, -, -⟩ := e'
  exact ⟨m1.2.1, m2.2.1, m3.2.1⟩
def OwBlkP (b : Bl) (w : World) (e : Ending) (w' : World) : Prop := ∃ v, e = .returned v ∧ OwBlk w.heap.size b v w' ∧ Below w.heap.size w w'
end Go.Proofs.YthnediamopehfaaGreat
namespace Go.Proofs.YthnediamopehfaaGreat
open Go.RowKit
set_option maxRecDepth 100000 in
set_option maxHeartbeats 2000000 in
theorem copy_own (a1 a2 a3 : Option Addr) (c1 c2 c3 : Nat) (tab p0 p1 p2 p3 hh t0 t1 u0 u1 sl : Int) (op : Bool) (w : World) (h1 : Ii w a1 4 c1 [p0, p1, p2, p3]) (h2 : Ii w a2 2 c2 [t0, t1]) (h3 : Ii w a3 2 c3 [u0, u1]) :
  Calls Tryz.prog 48 #[.agg #[.int .i64 tab, .slice (a1) (4) (c1), .int .i64 hh, .slice (a2) (2) (c2), .slice (a3) (2) (c3), .int .i64 sl, .bool op]] w (OwBlkP ⟨tab, [p0, p1, p2, p3], hh, [t0, t1], [u0, u1], sl, op⟩ w) := by
 refine calls_fr Tryz.func48 Tryz.ntmps48 rfl rfl fun g hg => ?_
 have k0 : g 0 = .agg #[.int .i64 tab, .slice (a1) (4) (c1), .int .i64 hh, .slice (a2) (2) (c2), .slice (a3) (2) (c3), .int .i64 sl, .bool op] := hg 0
 clear hg
 have fB0 : Below w.heap.size w w := Below.refl _ _
 refine wp_seq_k fun K1 hK1 => ?_
 refine region_dk 2 [(1, 0), (2, 1)] [[], []] (rel [bx 0 #[.int .i64 tab, .slice (a1) (4) (c1), .int .i64 hh, .slice (a2) (2) (c2), .slice (a3) (2) (c3), .int .i64 sl, .bool op] 24,
   bx 1 #[.int .i64 0, .slice (none) (0) (0), .int .i64 0, .slice (none) (0) (0), .slice (none) (0) (0), .int .i64 0, .bool false] 24])
  ⟨bx_k, bx_k, trivial⟩
  ⟨fun f s W c d i j l a => opb rfl rfl (by simp [go_sem, a.e 0 k0]),
  fun f s W c d i j l a => opb rfl rfl (by simp [go_sem]), trivial⟩ ?_
 intro f1 s1 W1 hB1 g1 hg1
 have fB1 := hB1.f fB0
 have z1 := hB1.below.size
 obtain ⟨r1_0, br1_0⟩ := hB1.is 0
 have lr1_0 := hB1.lr 0 br1_0
 obtain ⟨r1_1, br1_1⟩ := hB1.is 1
 have lr1_1 := hB1.lr 1 br1_1
 have ne1_0_1 := hB1.nb 0 1
 refine hK1 _ _ ?_
 have k1_1 := kt hg1 1 r1_0
 have k1_2 := kt hg1 2 r1_1
 refine wp_seq_k fun K2 hK2 => ?_
 refine region_dk 13 [(3, 0), (4, 1), (5, 2), (6, 3), (7, 4), (8, 5), (9, 6), (10, 7), (11, 8), (12, 9), (13, 10), (14, 11), (15, 12), (16, 14), (17, 16)] [[], [], [1], [0, 1, 2], [], [], [5], [0, 1, 2, 3, 4, 5, 6], [], [], [9], [0, 1, 2, 3, 4, 5, 6, 7, 8, 9, 10], [0, 1, 2, 3, 5, 6, 9, 10], [0, 1, 2, 3, 4, 5, 6, 7, 8, 9, 10, 11, 12], [0, 1, 2, 3, 4, 5, 6, 7, 8, 9, 10, 11, 12, 13], [0, 1, 2, 3, 4, 5, 6, 7, 8, 9, 10, 11, 12, 13, 14], [0, 1, 2, 3, 4, 5, 6, 7, 8, 9, 10, 11, 12, 13, 14, 15], [0, 1, 2, 3, 4, 5, 6, 7, 8, 9, 10, 11, 12, 13, 14, 15, 16]] (rel [row 0 0 #[] 3,
   is (.pointer (some ⟨(s1 0), 1, none⟩)),
   is (.slice (a1) (4) (c1)),
   fun v s W => OwI (s 3) ([p0, p1, p2, p3]) 4 v W,
   row 4 0 #[] 3,
   is (.pointer (some ⟨(s1 0), 3, none⟩)),
   is (.slice (a2) (2) (c2)),
   fun v s W => OwI (s 7) ([t0, t1]) 2 v W,
   row 8 0 #[] 3,
   is (.pointer (some ⟨(s1 0), 4, none⟩)),
   is (.slice (a3) (2) (c3)),
   fun v s W => OwI (s 11) ([u0, u1]) 2 v W,
   is (.pointer (some ⟨(s1 0), 1, none⟩))])
  ⟨row_k, is_k, is_k, ⟨fun v k W W' hb h => h.below hb, fun v s s' W e h => by have h' : OwI (s 3) ([p0, p1, p2, p3]) 4 v W := h; show OwI (s' 3) ([p0, p1, p2, p3]) 4 v W; rw [← e 3 (by simp)]; exact h'⟩, row_k, is_k, is_k, ⟨fun v k W W' hb h => h.below hb, fun v s s' W e h => by have h' : OwI (s 7) ([t0, t1]) 2 v W := h; show OwI (s' 7) ([t0, t1]) 2 v W; rw [← e 7 (by simp)]; exact h'⟩, row_k, is_k, is_k, ⟨fun v k W W' hb h => h.below hb, fun v s s' W e h => by have h' : OwI (s 11) ([u0, u1]) 2 v W := h; show OwI (s' 11) ([u0, u1]) 2 v W; rw [← e 11 (by simp)]; exact h'⟩, is_k, trivial⟩
  ⟨fun f s W c d i j l a => opr rfl rfl (by simp [go_sem]),
  fun f s W c d i j l a => opv rfl rfl (by simp [go_sem, a.e 1 k1_1]) rfl,
  fun f s W c d i j l a => opv rfl rfl (by simp [go_sem, a.e 4 (d 1 rfl), cb br1_0 c 1]) rfl,
  fun f s W c d i j l a => by have m := below_trans fB1 c; obtain ⟨v_, W_, r_, b_, i_⟩ := cloneO_run 22 W (s 0) (a1) (c1) ([p0, p1, p2, p3]) 4 ((h1.below m (Nat.le_refl _))) ((by decide)) ((by decide)) (d 0 rfl).2; exact opDo_value rfl rfl (run_appendOp (a.v 3 (d 0 rfl).1) (a.v 5 (d 2 rfl)) r_) b_ (show OwI (upd s 3 W.heap.size 3) ([p0, p1, p2, p3]) 4 v_ W_ from by rw [upd_at]; exact i_),
  fun f s W c d i j l a => opr rfl rfl (by simp [go_sem]),
  fun f s W c d i j l a => opv rfl rfl (by simp [go_sem, a.e 1 k1_1]) rfl,
  fun f s W c d i j l a => opv rfl rfl (by simp [go_sem, a.e 8 (d 5 rfl), cb br1_0 c 3]) rfl,
  fun f s W c d i j l a => by have m := below_trans fB1 c; obtain ⟨v_, W_, r_, b_, i_⟩ := cloneO_run 22 W (s 4) (a2) (c2) ([t0, t1]) 2 ((h2.below m (Nat.le_refl _))) ((by decide)) ((by decide)) (d 4 rfl).2; exact opDo_value rfl rfl (run_appendOp (a.v 7 (d 4 rfl).1) (a.v 9 (d 6 rfl)) r_) b_ (show OwI (upd s 7 W.heap.size 7) ([t0, t1]) 2 v_ W_ from by rw [upd_at]; exact i_),
  fun f s W c d i j l a => opr rfl rfl (by simp [go_sem]),
  fun f s W c d i j l a => opv rfl rfl (by simp [go_sem, a.e 1 k1_1]) rfl,
  fun f s W c d i j l a => opv rfl rfl (by simp [go_sem, a.e 12 (d 9 rfl), cb br1_0 c 4]) rfl,
  fun f s W c d i j l a => by have m := below_trans fB1 c; obtain ⟨v_, W_, r_, b_, i_⟩ := cloneO_run 22 W (s 8) (a3) (c3) ([u0, u1]) 2 ((h3.below m (Nat.le_refl _))) ((by decide)) ((by decide)) (d 8 rfl).2; exact opDo_value rfl rfl (run_appendOp (a.v 11 (d 8 rfl).1) (a.v 13 (d 10 rfl)) r_) b_ (show OwI (upd s 11 W.heap.size 11) ([u0, u1]) 2 v_ W_ from by rw [upd_at]; exact i_),
  fun f s W c d i j l a => opv rfl rfl (by simp [go_sem, a.e 1 k1_1]) rfl, trivial⟩ ?_
 intro f2 s2 W2 hB2 g2 hg2
 have fB2 := hB2.f fB1
 have z2 := hB2.below.size
 have b2_0 := hB2.b br1_0
 have b2_1 := hB2.b br1_1
 obtain ⟨r2_0, br2_0⟩ := hB2.is 0
 have lr2_0 := hB2.lr 0 br2_0
 obtain ⟨g1', c2', r2_3, q3'⟩ := hB2.is 3
 have la2_3 := hB2.from' 3 (by decide)
 have lo2_3_o := q3'.lim
 have q4' := q3'.low (B' := w.heap.size) (Nat.le_trans fB1.size (la2_3))
 obtain ⟨r2_4, br2_4⟩ := hB2.is 4
 have lr2_4 := hB2.lr 4 br2_4
 obtain ⟨g5', c6', r2_7, q7'⟩ := hB2.is 7
 have la2_7 := hB2.from' 7 (by decide)
 have lo2_7_o := q7'.lim
 have q8' := q7'.low (B' := w.heap.size) (Nat.le_trans fB1.size (la2_7))
 obtain ⟨r2_8, br2_8⟩ := hB2.is 8
 have lr2_8 := hB2.lr 8 br2_8
 obtain ⟨g9', c10', r2_11, q11'⟩ := hB2.is 11
 have la2_11 := hB2.from' 11 (by decide)
 have lo2_11_o := q11'.lim
 have q12' := q11'.low (B' := w.heap.size) (Nat.le_trans fB1.size (la2_11))
 have oo2_3_o_0 := hB2.off 3 0 (by decide) (by decide) (by decide) lo2_3_o.1 (fun W h => OwI.lt h r2_3) (fun _ _ _ h => lt_of_blk h.2)
 have oo2_3_o_4 := hB2.off 3 4 (by decide) (by decide) (by decide) lo2_3_o.1 (fun W h => OwI.lt h r2_3) (fun _ _ _ h => lt_of_blk h.2)
 have oo2_3_o_8 := hB2.off 3 8 (by decide) (by decide) (by decide) lo2_3_o.1 (fun W h => OwI.lt h r2_3) (fun _ _ _ h => lt_of_blk h.2)
 have oo2_7_o_0 := hB2.off 7 0 (by decide) (by decide) (by decide) lo2_7_o.1 (fun W h => OwI.lt h r2_7) (fun _ _ _ h => lt_of_blk h.2)
 have oo2_7_o_4 := hB2.off 7 4 (by decide) (by decide) (by decide) lo2_7_o.1 (fun W h => OwI.lt h r2_7) (fun _ _ _ h => lt_of_blk h.2)
 have oo2_7_o_8 := hB2.off 7 8 (by decide) (by decide) (by decide) lo2_7_o.1 (fun W h => OwI.lt h r2_7) (fun _ _ _ h => lt_of_blk h.2)
 have ow2_7_o_3_o := hB2.two 7 3 (by decide) (by decide) (by decide) lo2_7_o.1 lo2_3_o.1 (fun W h => OwI.lt h r2_7) (fun W h => OwI.lt h r2_3)
 have oo2_11_o_0 := hB2.off 11 0 (by decide) (by decide) (by decide) lo2_11_o.1 (fun W h => OwI.lt h r2_11) (fun _ _ _ h => lt_of_blk h.2)
 have oo2_11_o_4 := hB2.off 11 4 (by decide) (by decide) (by decide) lo2_11_o.1 (fun W h => OwI.lt h r2_11) (fun _ _ _ h => lt_of_blk h.2)
 have oo2_11_o_8 := hB2.off 11 8 (by decide) (by decide) (by decide) lo2_11_o.1 (fun W h => OwI.lt h r2_11) (fun _ _ _ h => lt_of_blk h.2)
 have ow2_11_o_3_o := hB2.two 11 3 (by decide) (by decide) (by decide) lo2_11_o.1 lo2_3_o.1 (fun W h => OwI.lt h r2_11) (fun W h => OwI.lt h r2_3)
 have ow2_11_o_7_o := hB2.two 11 7 (by decide) (by decide) (by decide) lo2_11_o.1 lo2_7_o.1 (fun W h => OwI.lt h r2_11) (fun W h => OwI.lt h r2_7)
 have ne2_0_4 := hB2.nb 0 4
 have ne2_0_8 := hB2.nb 0 8
 have ne2_4_8 := hB2.nb 4 8
 have k2_1 := kt hg2 1 k1_1
 have k2_2 := kt hg2 2 k1_2
 have k2_6 := kt hg2 6 r2_3
 have k2_10 := kt hg2 10 r2_7
 have k2_14 := kt hg2 14 r2_11
 have k2_15 := kt hg2 15 (hB2.is 12)
 obtain ⟨W3, hW3⟩ : ∃ W', W' = W2.setRow (s1 0) #[.int .i64 tab, .slice (some ⟨g1', 0, none⟩) (4) (c2'), .int .i64 hh, .slice (a2) (2) (c2), .slice (a3) (2) (c3), .int .i64 sl, .bool op] := ⟨_, rfl⟩
 refine tail_skip (o := _) rfl ⟨rfl, rfl⟩ (run_seg hW3 (fr_ev k2_15) (fr_ev k2_6) b2_0 rfl rfl rfl rfl) ?_
 obtain ⟨fB3, nb3, ot3, z3⟩ := seg_facts hW3 fB2 b2_0 (by omega)
 clear hW3
 have b3_1 := ot3 _ _ (by omega) b2_1
 have b3_2 := ot3 _ _ (by omega) br2_0
 have b3_3 := ot3 _ _ (by omega) br2_4
 have b3_4 := ot3 _ _ (by omega) br2_8
 have q13' := q4'.other ot3 (by omega) z3
 have q14' := q8'.other ot3 (by omega) z3
 have q15' := q12'.other ot3 (by omega) z3
 refine tail_value (o := _) rfl rfl rfl (v := .pointer (some ⟨(s1 0), 3, none⟩)) (by simp [go_sem, frv 19 k2_1]) ?_
 generalize hg4 : upd g2 16 (.pointer (some ⟨(s1 0), 3, none⟩)) = g4
 have k4_1 := ku hg4 1 k2_1
 have k4_2 := ku hg4 2 k2_2
 have k4_10 := ku hg4 10 k2_10
 have k4_14 := ku hg4 14 k2_14
 have k4_16 := kt hg4 16 (upd_same _ _ _)
 obtain ⟨W5, hW5⟩ : ∃ W', W' = W3.setRow (s1 0) #[.int .i64 tab, .slice (some ⟨g1', 0, none⟩) (4) (c2'), .int .i64 hh, .slice (some ⟨g5', 0, none⟩) (2) (c6'), .slice (a3) (2) (c3), .int .i64 sl, .bool op] := ⟨_, rfl⟩
 refine tail_skip (o := _) rfl ⟨rfl, rfl⟩ (run_seg hW5 (fr_ev k4_16) (fr_ev k4_10) nb3 rfl rfl rfl rfl) ?_
 obtain ⟨fB5, nb5, ot5, z5⟩ := seg_facts hW5 fB3 nb3 (by omega)
 clear hW5
 have b5_1 := ot5 _ _ (by omega) b3_1
 have b5_2 := ot5 _ _ (by omega) b3_2
 have b5_3 := ot5 _ _ (by omega) b3_3
 have b5_4 := ot5 _ _ (by omega) b3_4
 have q16' := q13'.other ot5 (by omega) z5
 have q17' := q14'.other ot5 (by omega) z5
 have q18' := q15'.other ot5 (by omega) z5
 refine tail_value (o := _) rfl rfl rfl (v := .pointer (some ⟨(s1 0), 4, none⟩)) (by simp [go_sem, frv 19 k4_1]) ?_
 generalize hg6 : upd g4 17 (.pointer (some ⟨(s1 0), 4, none⟩)) = g6
 have k6_1 := ku hg6 1 k4_1
 have k6_2 := ku hg6 2 k4_2
 have k6_14 := ku hg6 14 k4_14
 have k6_17 := kt hg6 17 (upd_same _ _ _)
 obtain ⟨W7, hW7⟩ : ∃ W', W' = W5.setRow (s1 0) #[.int .i64 tab, .slice (some ⟨g1', 0, none⟩) (4) (c2'), .int .i64 hh, .slice (some ⟨g5', 0, none⟩) (2) (c6'), .slice (some ⟨g9', 0, none⟩) (2) (c10'), .int .i64 sl, .bool op] := ⟨_, rfl⟩
 refine tail_skip (o := _) rfl ⟨rfl, rfl⟩ (run_seg hW7 (fr_ev k6_17) (fr_ev k6_14) nb5 rfl rfl rfl rfl) ?_
 obtain ⟨fB7, nb7, ot7, z7⟩ := seg_facts hW7 fB5 nb5 (by omega)
 clear hW7
 have b7_1 := ot7 _ _ (by omega) b5_1
 have b7_2 := ot7 _ _ (by omega) b5_2
 have b7_3 := ot7 _ _ (by omega) b5_3
 have b7_4 := ot7 _ _ (by omega) b5_4
 have q19' := q16'.other ot7 (by omega) z7
 have q20' := q17'.other ot7 (by omega) z7
 have q21' := q18'.other ot7 (by omega) z7
 refine wpOps_end ?_
 refine hK2 _ _ ?_
 refine wp_seq_k fun K3 hK3 => ?_
 refine region_dk 1 [(18, 0)] [[], [0]] (rel [is (.agg #[.int .i64 tab, .slice (some ⟨g1', 0, none⟩) (4) (c2'), .int .i64 hh, .slice (some ⟨g5', 0, none⟩) (2) (c6'), .slice (some ⟨g9', 0, none⟩) (2) (c10'), .int .i64 sl, .bool op])])
  ⟨is_k, trivial⟩
  ⟨fun f s W c d i j l a => opv rfl rfl (by simp [go_sem, a.e 1 k6_1, cb nb7 c 0, cb nb7 c 1, cb nb7 c 2, cb nb7 c 3, cb nb7 c 4, cb nb7 c 5, cb nb7 c 6]) rfl, trivial⟩ ?_
 intro f8 s8 W8 hB8 g8 hg8
 have fB8 := hB8.f fB7
 have z8 := hB8.below.size
 have b8_0 := hB8.b nb7
 have b8_1 := hB8.b b7_1
 have b8_2 := hB8.b b7_2
 have b8_3 := hB8.b b7_3
 have b8_4 := hB8.b b7_4
 have q22' := (q19'.below hB8.below)
 have q23' := (q20'.below hB8.below)
 have q24' := (q21'.below hB8.below)
 have k8_2 := kt hg8 2 k6_2
 have k8_18 := kt hg8 18 (hB8.is 0)
 obtain ⟨W9, hW9⟩ : ∃ W', W' = W8.setRow (s1 1) #[.int .i64 tab, .slice (some ⟨g1', 0, none⟩) (4) (c2'), .int .i64 hh, .slice (some ⟨g5', 0, none⟩) (2) (c6'), .slice (some ⟨g9', 0, none⟩) (2) (c10'), .int .i64 sl, .bool op] := ⟨_, rfl⟩
 refine tail_skip (o := _) rfl ⟨rfl, rfl⟩ (run_seg hW9 (fr_ev k8_2) (fr_ev k8_18) b8_1 rfl rfl rfl rfl) ?_
 obtain ⟨fB9, nb9, ot9, z9⟩ := seg_facts hW9 fB8 b8_1 (by omega)
 clear hW9
 have b9_0 := ot9 _ _ (by omega) b8_0
 have b9_2 := ot9 _ _ (by omega) b8_2
 have b9_3 := ot9 _ _ (by omega) b8_3
 have b9_4 := ot9 _ _ (by omega) b8_4
 have q25' := q22'.other ot9 (by omega) z9
 have q26' := q23'.other ot9 (by omega) z9
 have q27' := q24'.other ot9 (by omega) z9
 refine wpOps_end ?_
 refine hK3 _ _ ?_
 refine wp_ret ?_
 refine leave_gen (v := .agg #[.int .i64 tab, .slice (some ⟨g1', 0, none⟩) (4) (c2'), .int .i64 hh, .slice (some ⟨g5', 0, none⟩) (2) (c6'), .slice (some ⟨g9', 0, none⟩) (2) (c10'), .int .i64 sl, .bool op]) (.inr rfl) (by simp [results, Tryz.results48, go_sem, frv 19 k8_2, cl nb9 0, cl nb9 1, cl nb9 2, cl nb9 3, cl nb9 4, cl nb9 5, cl nb9 6]) ?_
 exact ⟨_, rfl, ⟨_, _, _, _, _, _, rfl, q25', q26', q27', by omega, by omega, by omega⟩, fB9⟩
set_option maxRecDepth 100000 in
set_option maxHeartbeats 2000000 in
theorem own_own (a1 a2 a3 : Option Addr) (c1 c2 c3 : Nat) (tab p0 p1 p2 p3 hh t0 t1 u0 u1 sl : Int) (op : Bool) (w : World) (h1 : Ii w a1 4 c1 [p0, p1, p2, p3]) (h2 : Ii w a2 2 c2 [t0, t1]) (h3 : Ii w a3 2 c3 [u0, u1]) :
  Calls Tryz.prog 13 #[.agg #[.int .i64 tab, .slice (a1) (4) (c1), .int .i64 hh, .slice (a2) (2) (c2), .slice (a3) (2) (c3), .int .i64 sl, .bool op]] w (OwBlkP ⟨tab, [p0, p1, p2, p3], hh, [t0, t1], [u0, u1], sl, op⟩ w) := by
 refine calls_fr Tryz.func13 Tryz.ntmps13 rfl rfl fun g hg => ?_
 have k0 : g 0 = .agg #[.int .i64 tab, .slice (a1) (4) (c1), .int .i64 hh, .slice (a2) (2) (c2), .slice (a3) (2) (c3), .int .i64 sl, .bool op] := hg 0
 clear hg
 have fB0 : Below w.heap.size w w := Below.refl _ _
 refine wp_seq_k fun K1 hK1 => ?_
 refine region_dk 2 [(1, 0), (2, 1)] [[], []] (rel [bx 0 #[.int .i64 tab, .slice (a1) (4) (c1), .int .i64 hh, .slice (a2) (2) (c2), .slice (a3) (2) (c3), .int .i64 sl, .bool op] 24,
   bx 1 #[.int .i64 0, .slice (none) (0) (0), .int .i64 0, .slice (none) (0) (0), .slice (none) (0) (0), .int .i64 0, .bool false] 24])
  ⟨bx_k, bx_k, trivial⟩
  ⟨fun f s W c d i j l a => opb rfl rfl (by simp [go_sem, a.e 0 k0]),
  fun f s W c d i j l a => opb rfl rfl (by simp [go_sem]), trivial⟩ ?_
 intro f1 s1 W1 hB1 g1 hg1
 have fB1 := hB1.f fB0
 have z1 := hB1.below.size
 obtain ⟨r1_0, br1_0⟩ := hB1.is 0
 have lr1_0 := hB1.lr 0 br1_0
 obtain ⟨r1_1, br1_1⟩ := hB1.is 1
 have lr1_1 := hB1.lr 1 br1_1
 have ne1_0_1 := hB1.nb 0 1
 refine hK1 _ _ ?_
 have k1_1 := kt hg1 1 r1_0
 have k1_2 := kt hg1 2 r1_1
 refine wp_seq_k fun K2 hK2 => ?_
 refine region_dk 2 [(3, 0), (4, 1)] [[], [0], [0, 1]] (rel [is (.agg #[.int .i64 tab, .slice (a1) (4) (c1), .int .i64 hh, .slice (a2) (2) (c2), .slice (a3) (2) (c3), .int .i64 sl, .bool op]),
   fun v s W => OwBlk (s 1) (⟨tab, [p0, p1, p2, p3], hh, [t0, t1], [u0, u1], sl, op⟩) v W])
  ⟨is_k, ⟨fun v k W W' hb h => h.below hb, fun v s s' W e h => by have h' : OwBlk (s 1) (⟨tab, [p0, p1, p2, p3], hh, [t0, t1], [u0, u1], sl, op⟩) v W := h; show OwBlk (s' 1) (⟨tab, [p0, p1, p2, p3], hh, [t0, t1], [u0, u1], sl, op⟩) v W; rw [← e 1 (by simp)]; exact h'⟩, trivial⟩
  ⟨fun f s W c d i j l a => opv rfl rfl (by simp [go_sem, a.e 1 k1_1, cb br1_0 c 0, cb br1_0 c 1, cb br1_0 c 2, cb br1_0 c 3, cb br1_0 c 4, cb br1_0 c 5, cb br1_0 c 6]) rfl,
  fun f s W c d i j l a => by have m := below_trans fB1 c; exact opDo_call rfl rfl (by simp [go_sem, a.e 3 (d 0 rfl)]) (copy_own a1 a2 a3 c1 c2 c3 tab p0 p1 p2 p3 hh t0 t1 u0 u1 sl op W (h1.below m (Nat.le_refl _)) (h2.below m (Nat.le_refl _)) (h3.below m (Nat.le_refl _))) (fun e W' h => by obtain ⟨v, e1, h1, h2⟩ := h; exact ⟨v, e1, h2, (show OwBlk (upd s 1 W.heap.size 1) (⟨tab, [p0, p1, p2, p3], hh, [t0, t1], [u0, u1], sl, op⟩) v W' from by rw [upd_at]; exact h1)⟩), trivial⟩ ?_
 intro f2 s2 W2 hB2 g2 hg2
 have fB2 := hB2.f fB1
 have z2 := hB2.below.size
 have b2_0 := hB2.b br1_0
 have b2_1 := hB2.b br1_1
 obtain ⟨g28', c31', g29', c32', g30', c33', r2_1, q34', q35', q36', q37', q38', q39'⟩ := hB2.is 1
 have la2_1 := hB2.from' 1 (by decide)
 have lo2_1_o0 := q34'.lim
 have q40' := q34'.low (B' := w.heap.size) (Nat.le_trans fB1.size (la2_1))
 have lo2_1_o1 := q35'.lim
 have q41' := q35'.low (B' := w.heap.size) (Nat.le_trans fB1.size (la2_1))
 have lo2_1_o2 := q36'.lim
 have q42' := q36'.low (B' := w.heap.size) (Nat.le_trans fB1.size (la2_1))
 have k2_2 := kt hg2 2 k1_2
 have k2_4 := kt hg2 4 r2_1
 obtain ⟨W3, hW3⟩ : ∃ W', W' = W2.setRow (s1 1) #[.int .i64 tab, .slice (some ⟨g28', 0, none⟩) (4) (c31'), .int .i64 hh, .slice (some ⟨g29', 0, none⟩) (2) (c32'), .slice (some ⟨g30', 0, none⟩) (2) (c33'), .int .i64 sl, .bool op] := ⟨_, rfl⟩
 refine tail_skip (o := _) rfl ⟨rfl, rfl⟩ (run_seg hW3 (fr_ev k2_2) (fr_ev k2_4) b2_1 rfl rfl rfl rfl) ?_
 obtain ⟨fB3, nb3, ot3, z3⟩ := seg_facts hW3 fB2 b2_1 (by omega)
 clear hW3
 have b3_0 := ot3 _ _ (by omega) b2_0
 have q43' := q40'.other ot3 (by omega) z3
 have q44' := q41'.other ot3 (by omega) z3
 have q45' := q42'.other ot3 (by omega) z3
 refine wpOps_end ?_
 refine hK2 _ _ ?_
 refine wp_ret ?_
 refine leave_gen (v := .agg #[.int .i64 tab, .slice (some ⟨g28', 0, none⟩) (4) (c31'), .int .i64 hh, .slice (some ⟨g29', 0, none⟩) (2) (c32'), .slice (some ⟨g30', 0, none⟩) (2) (c33'), .int .i64 sl, .bool op]) (.inr rfl) (by simp [results, Tryz.results13, go_sem, frv 5 k2_2, cl nb3 0, cl nb3 1, cl nb3 2, cl nb3 3, cl nb3 4, cl nb3 5, cl nb3 6]) ?_
 exact ⟨_, rfl, ⟨_, _, _, _, _, _, rfl, q43', q44', q45', by omega, by omega, by omega⟩, fB3⟩
end Go.Proofs.YthnediamopehfaaGreat
namespace Go.Proofs.YthnediamopehfaaGreat
open Go.RowKit
/-- The slice (a, n, c) is a row of one's own with the cells cs, from block B on, or nil. -/
def OwnV (T : TypeId) (z B : Nat) (cs : List Value) (n : Nat) (a : Option Addr) (c : Nat) (W : World) : Prop :=
  B ≤ W.heap.size ∧ (∀ x, a = some x → B ≤ x.block ∧ x.block < W.heap.size) ∧ W.ownsRow B T z (.slice a n c) n cs
theorem OwnV.below {T : TypeId} {z B n c : Nat} {cs : List Value} {a : Option Addr} {W W' : World} (h : OwnV T z B cs n a c W) (hb : Below W.heap.size W W') : OwnV T z B cs n a c W' :=
  ⟨Nat.le_trans h.1 hb.size, fun x e => ⟨(h.2.1 x e).1, Nat.lt_of_lt_of_le (h.2.1 x e).2 hb.size⟩, own_below h.2.2 hb⟩
theorem ownV_block {T : TypeId} {z B b : Nat} {W : World} (h : W.heap[b]? = some (.cells #[] T (0, 0))) (hb : B ≤ b) : OwnV T z B [] 0 (some ⟨b, 0, none⟩) 0 W := by
  have := lt_of_blk h
  exact ⟨by omega, fun x e => by cases e; exact ⟨hb, this⟩, by simp, .inr ⟨b, 0, #[], rfl, hb, h, Nat.le_refl _, by unfold maxLen; omega, by simp, by simp⟩⟩
theorem add_plain' (b o k : Nat) : ((⟨b, o, none⟩ : Addr).add k) = ⟨b, o + k, none⟩ := by unfold Addr.add; split <;> simp_all
/-- append(l, x), or append(l, x..), where l is one's own or nil. -/
theorem growV_tail {w W : World} (sl ty T : TypeId) (z by_ : Nat) (zero : Value) (hu : Tryz.prog.underlying sl = some (.slice T)) (hi : (Tryz.prog.info? T).map (fun i => (i.zero, i.size, i.bytes)) = some (some zero, z, by_)) (hzz : decide (0 < z ∧ zero.cells.size = z) = true)
    {B n c : Nat} {cs : List Value} {a : Option Addr} (ys : List Value) (m : Nat) {b off k c' : Nat} (es : List Value) (hB : Below w.heap.size w W) (hown : OwnV T z B cs n a c W) (hys : cs ++ es = ys) (hm : n + k = m) (hBw : w.heap.size ≤ B)
    (hel : decide (es.length = k * z ∧ 0 < k) = true) (h1 : es.all (·.oneCell') = true) (hb : ∀ j u, es[j]? = some u → W.cell? ⟨b, off + j, none⟩ = some u) (hn : (n + k) * (by_ + 1) ≤ 1000000000) :
    ∃ g' c2 W', (Builtin.append_ #[sl, sl] ty #[.slice a n c, .slice (some ⟨b, off, none⟩) k c']).run Tryz.prog W = .ok (.slice (some ⟨g', 0, none⟩) m c2) W' ∧
      OwnV T z B ys m (some ⟨g', 0, none⟩) c2 W' ∧ (∀ k y, k < B → W.heap[k]? = some y → W'.heap[k]? = some y) ∧ W.heap.size ≤ W'.heap.size ∧ Below w.heap.size w W' := by
  subst hys hm
  obtain ⟨hz0, hzs⟩ := of_decide_eq_true hzz
  obtain ⟨hel, hk⟩ := of_decide_eq_true hel
  obtain ⟨i0, hi, hz0', hz1, hz2⟩ := info_parts hi
  have hnk : n + k ≤ (n + k) * (by_ + 1) := Nat.le_mul_of_pos_right _ (Nat.succ_pos _)
  have hnb : (n + k) * by_ ≤ (n + k) * (by_ + 1) := Nat.mul_le_mul_left _ (Nat.le_succ _)
  obtain ⟨g', c2, W', hr, h2, h3, h4, h5⟩ := run_append_lies (P := Tryz.prog) W sl ty B T i0 zero z by_ hu hi hz0' hz1 hz2 hzs hz0 _ n cs hown.2.2
    ⟨b, off, none⟩ k c' es hel (fun j u hj => by rw [add_plain']; exact hb j u hj) (fun u hu => List.all_eq_true.1 h1 u hu) hk (by unfold maxLen; omega) (by omega) hown.1 _ rfl
  have hle : B ≤ g' := by
    rcases h4 with h4 | h4
    · cases a with
      | none => cases h4
      | some x =>
        have := hown.2.1 x rfl
        have e : x.block = g' := by simpa [Value.ownBlock] using h4
        omega
    · have := hown.1; omega
  refine ⟨g', c2, W', hr, ⟨Nat.le_trans hown.1 h3.size, fun x e => by cases e; exact ⟨hle, h5⟩, h2⟩, fun k y hk hy => ?_, h3.size, hB.grown h3 hB.size fun k e => ?_⟩
  · rw [h3.block k (by
      rcases Nat.lt_or_ge k W.heap.size with h | h
      · exact h
      · rw [Array.getElem?_eq_none h] at hy; cases hy) (fun e => by
        cases a with
        | none => cases e
        | some x =>
          have := hown.2.1 x rfl
          have e' : k = x.block := by simpa [Value.ownBlock] using e
          omega)]
    exact hy
  · cases a with
    | none => cases e
    | some x =>
      have := hown.2.1 x rfl
      have e' : x.block = k := by simpa [Value.ownBlock] using e
      omega
/-- The cells of a list of whole numbers. -/
def iis (l : List Int) : List Value := l.map (Value.int .i64)
theorem iis_snoc (l : List Int) (x : Int) : iis l ++ [.int .i64 x] = iis (l ++ [x]) := by simp [iis]
theorem OwnV.ii {B c : Nat} {L : List Int} {a : Option Addr} {W : World} (h : OwnV 3 1 B (iis L) L.length a c W) : Ii W a L.length c L := by
  rcases Joins.ownsRow_forms h.2.2 with ⟨e, h0⟩ | ⟨g, cap, e⟩
  · obtain ⟨rfl, -, rfl⟩ := Value.slice.inj e
    have : L = [] := List.length_eq_zero_iff.1 h0
    subst this
    exact ⟨rfl, Nat.le_refl _, by unfold maxLen; omega, by simp, .inl rfl⟩
  · obtain ⟨rfl, -, rfl⟩ := Value.slice.inj e
    exact owns_ii h.2.2
/-- A cell of a block, for what is appended. -/
theorem cells_at {W : World} {b : Nat} {cs : Array Value} {T : TypeId} (h : W.heap[b]? = some (.cells cs T (0, 0))) : ∀ j u, cs.toList[j]? = some u → W.cell? ⟨b, 0 + j, none⟩ = some u := by
  intro j u hj
  rw [Joins.cell_of_block h (0 + j), Nat.zero_add]
  simpa using hj
end Go.Proofs.YthnediamopehfaaGreat
namespace Go.Proofs.YthnediamopehfaaGreat
open Go.RowKit
def spanR (lo hi least most : Int) : Bool := inB lo least hi && decide (hi ≤ most)
set_option maxRecDepth 100000 in
set_option maxHeartbeats 400000 in
theorem spanR_any (lo hi least most : Int) (w : World) :
  Calls Tryz.prog 17 #[.agg #[.int .i64 lo, .int .i64 hi], .int .i64 least, .int .i64 most] w (fun e w' => e = .returned (.bool (spanR lo hi least most)) ∧ Below w.heap.size w w') := by
 refine calls_fr Tryz.func17 Tryz.ntmps17 rfl rfl fun g hg => ?_
 have k0 : g 0 = .agg #[.int .i64 lo, .int .i64 hi] := hg 0
 have k1 : g 1 = .int .i64 least := hg 1
 have k2 : g 2 = .int .i64 most := hg 2
 clear hg
 have fB0 : Below w.heap.size w w := Below.refl _ _
 refine wp_seq_k fun K1 hK1 => ?_
 refine region_dk 2 [(3, 0), (6, 1)] [[], []] (rel [bx 0 #[.int .i64 lo, .int .i64 hi] 26,
   is (.bool false)])
  ⟨bx_k, is_k, trivial⟩
  ⟨fun f s W h i j k l a => opb rfl rfl (by simp [go_sem, a.e 0 k0]),
  fun f s W h i j k l a => opv rfl rfl (by simp [go_sem]) rfl, trivial⟩ ?_
 intro f1 s1 W1 hB1 g1 hg1
 have fB1 := hB1.f fB0
 have z1 := hB1.below.size
 obtain ⟨r1_0, br1_0⟩ := hB1.is 0
 have lr1_0 := hB1.lr 0 br1_0
 refine hK1 _ _ ?_
 have k1_1 := kt hg1 1 k1
 have k1_2 := kt hg1 2 k2
 have k1_3 := kt hg1 3 r1_0
 have k1_6 := kt hg1 6 (hB1.is 1)
 refine wp_seq_k fun K2 hK2 => ?_
 refine region_dk 13 [(7, 0), (8, 1), (9, 2), (10, 3), (11, 4), (12, 5), (13, 6), (14, 7), (15, 8), (16, 9), (17, 10), (18, 11), (6, 12)] [[], [0], [], [], [3], [0, 1, 2, 3, 4], [0, 1, 2, 3, 4, 5], [0, 1, 2, 3, 4, 5, 6], [0, 1, 2, 3, 4, 5, 6, 7], [0, 1, 2, 3, 4, 5, 6], [0, 1, 2, 3, 4, 5, 6, 7, 8, 9], [0, 1, 2, 3, 4, 5, 6, 7, 8, 9, 10], [0, 1, 2, 3, 4, 5, 6, 7, 8, 9, 10, 11]] (rel [is (.pointer (some ⟨(s1 0), 0, none⟩)),
   is (.int .i64 lo),
   is (.int .i64 least),
   is (.pointer (some ⟨(s1 0), 1, none⟩)),
   is (.int .i64 hi),
   is (.bool (inB lo least hi)),
   is (.bool (inB lo least hi)),
   gd (inB lo least hi) true (is (.pointer (some ⟨(s1 0), 1, none⟩))),
   gd (inB lo least hi) true (is (.int .i64 hi)),
   gd (inB lo least hi) true (is (.int .i64 most)),
   gd (inB lo least hi) true (is (.bool (decide (hi ≤ most)))),
   is (.bool ((inB lo least hi) && (decide (hi ≤ most)))),
   is (.bool ((inB lo least hi) && (decide (hi ≤ most))))])
  ⟨is_k, is_k, is_k, is_k, is_k, is_k, is_k, gd_k (is_k), gd_k (is_k), gd_k (is_k), gd_k (is_k), is_k, is_k, trivial⟩
  ⟨fun f s W h i j k l a => opv rfl rfl (by simp [go_sem, a.e 3 k1_3]) rfl,
  fun f s W h i j k l a => opv rfl rfl (by simp [go_sem, a.e 7 (i 0 rfl), cb br1_0 h 0]) rfl,
  fun f s W h i j k l a => opv rfl rfl (by simp [go_sem, a.e 1 k1_1]) rfl,
  fun f s W h i j k l a => opv rfl rfl (by simp [go_sem, a.e 3 k1_3]) rfl,
  fun f s W h i j k l a => opv rfl rfl (by simp [go_sem, a.e 10 (i 3 rfl), cb br1_0 h 1]) rfl,
  fun f s W h i j k l a => opc rfl rfl (by simp [go_sem, a.e 8 (i 1 rfl), a.e 9 (i 2 rfl), a.e 11 (i 4 rfl)]) (in_any lo least hi W),
  fun f s W h i j k l a => opv rfl rfl (by simp [go_sem, a.e 12 (i 5 rfl)]) rfl,
  fun f s W h i j k l a => gdo rfl rfl (a.says (d := 13) rfl rfl (i 6 rfl)) fun hgd0 => gv (by simp [go_sem, a.e 3 k1_3]) rfl,
  fun f s W h i j k l a => gdo rfl rfl (a.says (d := 13) rfl rfl (i 6 rfl)) fun hgd0 => gv (by simp [go_sem, a.e 14 ((i 7 rfl).1 hgd0), cb br1_0 h 1]) rfl,
  fun f s W h i j k l a => gdo rfl rfl (a.says (d := 13) rfl rfl (i 6 rfl)) fun hgd0 => gv (by simp [go_sem, a.e 2 k1_2]) rfl,
  fun f s W h i j k l a => gdo rfl rfl (a.says (d := 13) rfl rfl (i 6 rfl)) fun hgd0 => gv (by simp [go_sem, a.e 15 ((i 8 rfl).1 hgd0), a.e 16 ((i 9 rfl).1 hgd0)]) rfl,
  fun f s W h i j k l a => opk (c := inB lo least hi) rfl rfl (fun hpk => by simp [go_sem, hpk, a.e 13 (i 6 rfl)]) (fun hpk => by simp [go_sem, hpk, a.e 13 (i 6 rfl), a.e 17 ((i 10 rfl).1 hpk)]),
  fun f s W h i j k l a => opv rfl rfl (by simp [go_sem, a.e 18 (i 11 rfl)]) rfl, trivial⟩ ?_
 intro f2 s2 W2 hB2 g2 hg2
 have fB2 := hB2.f fB1
 have z2 := hB2.below.size
 have b2_0 := hB2.b br1_0
 refine hK2 _ _ ?_
 have k2_6 := kt hg2 6 (hB2.is 12)
 refine wp_ret ?_
 refine leave_one (N := 19) (v := .bool ((inB lo least hi) && (decide (hi ≤ most)))) (.inr rfl) Tryz.results17 rfl k2_6 ?_
 exact ⟨rfl, fB2⟩
def panR (b : Bl) (k : Nat) (c : Int) : Int := 1000 * b.panels.getD k 0 - c
set_option maxRecDepth 100000 in
set_option maxHeartbeats 400000 in
theorem panR_any (a1 a2 a3 : Option Addr) (c1 c2 c3 : Nat) (b : Bl) (k : Nat) (ki x cal : Int) (w : World) (h1 : Ii w a1 b.panels.length c1 b.panels) (h2 : Ii w a2 b.top.length c2 b.top) (h3 : Ii w a3 b.bottom.length c3 b.bottom) (hki : ki = (k : Int)) (hk : k < b.panels.length) (hx : b.panels.getD k 0 = x) (hx1 : -100000 ≤ x) (hx2 : x ≤ 100000) (hy1 : -100000000 ≤ cal) (hy2 : cal ≤ 100000000) :
  Calls Tryz.prog 56 #[.agg #[.int .i64 b.tab, .slice (a1) (b.panels.length) (c1), .int .i64 b.height, .slice (a2) (b.top.length) (c2), .slice (a3) (b.bottom.length) (c3), .int .i64 b.slot, .bool b.isOpen], .int .i64 ki, .int .i64 cal] w (fun e w' => e = .returned (.int .i64 (panR b k cal)) ∧ Below w.heap.size w w') := by
 have hm1 := h1.len_le
 obtain ⟨q1, o1, hq1, hql1, hqc1⟩ := h1.at (by omega)
 refine calls_fr Tryz.func56 Tryz.ntmps56 rfl rfl fun g hg => ?_
 have k0 : g 0 = .agg #[.int .i64 b.tab, .slice (a1) (b.panels.length) (c1), .int .i64 b.height, .slice (a2) (b.top.length) (c2), .slice (a3) (b.bottom.length) (c3), .int .i64 b.slot, .bool b.isOpen] := hg 0
 have k1 : g 1 = .int .i64 ki := hg 1
 have k2 : g 2 = .int .i64 cal := hg 2
 clear hg
 have fB0 : Below w.heap.size w w := Below.refl _ _
 refine wp_seq_k fun K1 hK1 => ?_
 refine region_dk 2 [(3, 0), (6, 1)] [[], []] (rel [bx 0 #[.int .i64 b.tab, .slice (a1) (b.panels.length) (c1), .int .i64 b.height, .slice (a2) (b.top.length) (c2), .slice (a3) (b.bottom.length) (c3), .int .i64 b.slot, .bool b.isOpen] 24,
   is (.int .i64 0)])
  ⟨bx_k, is_k, trivial⟩
  ⟨fun f s W c d h i j a => opb rfl rfl (by simp [go_sem, a.e 0 k0]),
  fun f s W c d h i j a => opv rfl rfl (by simp [go_sem]) rfl, trivial⟩ ?_
 intro f1 s1 W1 hB1 g1 hg1
 have fB1 := hB1.f fB0
 have z1 := hB1.below.size
 obtain ⟨r1_0, br1_0⟩ := hB1.is 0
 have lr1_0 := hB1.lr 0 br1_0
 refine hK1 _ _ ?_
 have k1_1 := kt hg1 1 k1
 have k1_2 := kt hg1 2 k2
 have k1_3 := kt hg1 3 r1_0
 have k1_6 := kt hg1 6 (hB1.is 1)
 refine wp_seq_k fun K2 hK2 => ?_
 refine region_dk 9 [(7, 0), (8, 1), (9, 2), (10, 3), (11, 4), (12, 5), (13, 6), (14, 7), (6, 8)] [[], [0], [], [0, 1, 2], [0, 1, 2, 3], [0, 1, 2, 3, 4], [], [0, 1, 2, 3, 4, 5, 6], [0, 1, 2, 3, 4, 5, 6, 7]] (rel [is (.pointer (some ⟨(s1 0), 1, none⟩)),
   is (.slice (a1) (b.panels.length) (c1)),
   is (.int .i64 ki),
   is (.pointer (some ⟨q1, o1 + k, none⟩)),
   is (.int .i64 x),
   is (.int .i64 (1000 * x)),
   is (.int .i64 cal),
   is (.int .i64 ((1000 * x) - cal)),
   is (.int .i64 ((1000 * x) - cal))])
  ⟨is_k, is_k, is_k, is_k, is_k, is_k, is_k, is_k, is_k, trivial⟩
  ⟨fun f s W c d h i j a => opv rfl rfl (by simp [go_sem, a.e 3 k1_3]) rfl,
  fun f s W c d h i j a => opv rfl rfl (by simp [go_sem, a.e 7 (d 0 rfl), cb br1_0 c 1]) rfl,
  fun f s W c d h i j a => opv rfl rfl (by simp [go_sem, a.e 1 k1_1]) rfl,
  fun f s W c d h i j a => opv rfl rfl (by simp [go_sem, a.e 8 (d 1 rfl), a.e 9 (d 2 rfl), hq1, hki, hk]) rfl,
  fun f s W c d h i j a => by have l := below_trans fB1 c; have u1 : W.cell? ⟨q1, o1 + k, none⟩ = some (.int .i64 x) := (l.cell (p := ⟨q1, o1 + k, none⟩) hql1).trans (by rw [hqc1 k hk, hx]); exact opv rfl rfl (by simp [go_sem, a.e 10 (d 3 rfl), u1]) rfl,
  fun f s W c d h i j a => opv rfl rfl (by simp [go_sem, a.e 11 (d 4 rfl), IntWalk.i64_in (1000 * x) (by omega)]) rfl,
  fun f s W c d h i j a => opv rfl rfl (by simp [go_sem, a.e 2 k1_2]) rfl,
  fun f s W c d h i j a => opv rfl rfl (by simp [go_sem, a.e 12 (d 5 rfl), a.e 13 (d 6 rfl), IntWalk.i64_in ((1000 * x) - cal) (by omega)]) rfl,
  fun f s W c d h i j a => opv rfl rfl (by simp [go_sem, a.e 14 (d 7 rfl)]) rfl, trivial⟩ ?_
 intro f2 s2 W2 hB2 g2 hg2
 have fB2 := hB2.f fB1
 have z2 := hB2.below.size
 have b2_0 := hB2.b br1_0
 refine hK2 _ _ ?_
 have k2_6 := kt hg2 6 (hB2.is 8)
 refine wp_ret ?_
 refine leave_one (N := 15) (v := .int .i64 ((1000 * x) - cal)) (.inr rfl) Tryz.results56 rfl k2_6 ?_
 exact ⟨by rw [panR, hx], fB2⟩
def heightR (b : Bl) (c : Int) : Int := if b.isOpen = true then 1000 * b.height - c else 1000 * b.height - c - c
set_option maxRecDepth 100000 in
set_option maxHeartbeats 400000 in
theorem heightR_any (a1 a2 a3 : Option Addr) (c1 c2 c3 : Nat) (b : Bl) (cal : Int) (w : World) (h1 : Ii w a1 b.panels.length c1 b.panels) (h2 : Ii w a2 b.top.length c2 b.top) (h3 : Ii w a3 b.bottom.length c3 b.bottom) (hx1 : -100000 ≤ b.height) (hx2 : b.height ≤ 100000) (hy1 : -100000000 ≤ cal) (hy2 : cal ≤ 100000000) :
  Calls Tryz.prog 57 #[.agg #[.int .i64 b.tab, .slice (a1) (b.panels.length) (c1), .int .i64 b.height, .slice (a2) (b.top.length) (c2), .slice (a3) (b.bottom.length) (c3), .int .i64 b.slot, .bool b.isOpen], .int .i64 cal] w (fun e w' => e = .returned (.int .i64 (heightR b cal)) ∧ Below w.heap.size w w') := by
 refine calls_fr Tryz.func57 Tryz.ntmps57 rfl rfl fun g hg => ?_
 have k0 : g 0 = .agg #[.int .i64 b.tab, .slice (a1) (b.panels.length) (c1), .int .i64 b.height, .slice (a2) (b.top.length) (c2), .slice (a3) (b.bottom.length) (c3), .int .i64 b.slot, .bool b.isOpen] := hg 0
 have k1 : g 1 = .int .i64 cal := hg 1
 clear hg
 have fB0 : Below w.heap.size w w := Below.refl _ _
 refine wp_seq_k fun K1 hK1 => ?_
 refine region_dk 2 [(2, 0), (4, 1)] [[], []] (rel [bx 0 #[.int .i64 b.tab, .slice (a1) (b.panels.length) (c1), .int .i64 b.height, .slice (a2) (b.top.length) (c2), .slice (a3) (b.bottom.length) (c3), .int .i64 b.slot, .bool b.isOpen] 24,
   is (.int .i64 0)])
  ⟨bx_k, is_k, trivial⟩
  ⟨fun f s W c d h i j a => opb rfl rfl (by simp [go_sem, a.e 0 k0]),
  fun f s W c d h i j a => opv rfl rfl (by simp [go_sem]) rfl, trivial⟩ ?_
 intro f1 s1 W1 hB1 g1 hg1
 have fB1 := hB1.f fB0
 have z1 := hB1.below.size
 obtain ⟨r1_0, br1_0⟩ := hB1.is 0
 have lr1_0 := hB1.lr 0 br1_0
 refine hK1 _ _ ?_
 have k1_1 := kt hg1 1 k1
 have k1_2 := kt hg1 2 r1_0
 have k1_4 := kt hg1 4 (hB1.is 1)
 refine wp_seq_k fun K2 hK2 => ?_
 refine wp_seq_k fun K3 hK3 => ?_
 refine region_dk 2 [(5, 0), (6, 1)] [[], [0]] (rel [is (.pointer (some ⟨(s1 0), 6, none⟩)),
   is (.bool b.isOpen)])
  ⟨is_k, is_k, trivial⟩
  ⟨fun f s W c d h i j a => opv rfl rfl (by simp [go_sem, a.e 2 k1_2]) rfl,
  fun f s W c d h i j a => opv rfl rfl (by simp [go_sem, a.e 5 (d 0 rfl), cb br1_0 c 6]) rfl, trivial⟩ ?_
 intro f2 s2 W2 hB2 g2 hg2
 have fB2 := hB2.f fB1
 have z2 := hB2.below.size
 have b2_0 := hB2.b br1_0
 refine hK3 _ _ ?_
 have k2_1 := kt hg2 1 k1_1
 have k2_2 := kt hg2 2 k1_2
 have k2_4 := kt hg2 4 k1_4
 have k2_6 := kt hg2 6 (hB2.is 1)
 refine wp_cond_split (t := b.isOpen) ((fr_eval rfl).trans k2_6) (fun hc4 => ?_) (fun hc4 => ?_)
 ·
  have hc4' := hc4; try simp only [ba] at hc4'
  refine wp_seq_k fun K5 hK5 => ?_
  refine region_dk 6 [(7, 0), (8, 1), (9, 2), (10, 3), (11, 4), (4, 5)] [[], [0], [0, 1], [], [0, 1, 2, 3], [0, 1, 2, 3, 4]] (rel [is (.pointer (some ⟨(s1 0), 2, none⟩)),
   is (.int .i64 b.height),
   is (.int .i64 (1000 * b.height)),
   is (.int .i64 cal),
   is (.int .i64 ((1000 * b.height) - cal)),
   is (.int .i64 ((1000 * b.height) - cal))])
   ⟨is_k, is_k, is_k, is_k, is_k, is_k, trivial⟩
   ⟨fun f s W c d h i j a => opv rfl rfl (by simp [go_sem, a.e 2 k2_2]) rfl,
  fun f s W c d h i j a => opv rfl rfl (by simp [go_sem, a.e 7 (d 0 rfl), cb b2_0 c 2]) rfl,
  fun f s W c d h i j a => opv rfl rfl (by simp [go_sem, a.e 8 (d 1 rfl), IntWalk.i64_in (1000 * b.height) (by omega)]) rfl,
  fun f s W c d h i j a => opv rfl rfl (by simp [go_sem, a.e 1 k2_1]) rfl,
  fun f s W c d h i j a => opv rfl rfl (by simp [go_sem, a.e 9 (d 2 rfl), a.e 10 (d 3 rfl), IntWalk.i64_in ((1000 * b.height) - cal) (by omega)]) rfl,
  fun f s W c d h i j a => opv rfl rfl (by simp [go_sem, a.e 11 (d 4 rfl)]) rfl, trivial⟩ ?_
  intro f3 s3 W3 hB3 g3 hg3
  have fB3 := hB3.f fB2
  have z3 := hB3.below.size
  have b3_0 := hB3.b b2_0
  refine hK5 _ _ ?_
  have k3_1 := kt hg3 1 k2_1
  have k3_2 := kt hg3 2 k2_2
  have k3_4 := kt hg3 4 (hB3.is 5)
  refine wp_ret ?_
  refine then_ret ?_
  refine leave_one (N := 19) (v := .int .i64 ((1000 * b.height) - cal)) (.inr rfl) Tryz.results57 rfl k3_4 ?_
  exact ⟨by rw [heightR, if_pos hc4], fB3⟩
 ·
  have hc4' := hc4; try simp only [ba] at hc4'
  refine wp_skip ?_
  refine hK2 _ _ ?_
  refine wp_seq_k fun K6 hK6 => ?_
  refine region_dk 8 [(12, 0), (13, 1), (14, 2), (15, 3), (16, 4), (17, 5), (18, 6), (4, 7)] [[], [0], [0, 1], [], [0, 1, 2, 3], [], [0, 1, 2, 3, 4, 5], [0, 1, 2, 3, 4, 5, 6]] (rel [is (.pointer (some ⟨(s1 0), 2, none⟩)),
   is (.int .i64 b.height),
   is (.int .i64 (1000 * b.height)),
   is (.int .i64 cal),
   is (.int .i64 ((1000 * b.height) - cal)),
   is (.int .i64 cal),
   is (.int .i64 (((1000 * b.height) - cal) - cal)),
   is (.int .i64 (((1000 * b.height) - cal) - cal))])
   ⟨is_k, is_k, is_k, is_k, is_k, is_k, is_k, is_k, trivial⟩
   ⟨fun f s W c d h i j a => opv rfl rfl (by simp [go_sem, a.e 2 k2_2]) rfl,
  fun f s W c d h i j a => opv rfl rfl (by simp [go_sem, a.e 12 (d 0 rfl), cb b2_0 c 2]) rfl,
  fun f s W c d h i j a => opv rfl rfl (by simp [go_sem, a.e 13 (d 1 rfl), IntWalk.i64_in (1000 * b.height) (by omega)]) rfl,
  fun f s W c d h i j a => opv rfl rfl (by simp [go_sem, a.e 1 k2_1]) rfl,
  fun f s W c d h i j a => opv rfl rfl (by simp [go_sem, a.e 14 (d 2 rfl), a.e 15 (d 3 rfl), IntWalk.i64_in ((1000 * b.height) - cal) (by omega)]) rfl,
  fun f s W c d h i j a => opv rfl rfl (by simp [go_sem, a.e 1 k2_1]) rfl,
  fun f s W c d h i j a => opv rfl rfl (by simp [go_sem, a.e 16 (d 4 rfl), a.e 17 (d 5 rfl), IntWalk.i64_in (((1000 * b.height) - cal) - cal) (by omega)]) rfl,
  fun f s W c d h i j a => opv rfl rfl (by simp [go_sem, a.e 18 (d 6 rfl)]) rfl, trivial⟩ ?_
  intro f4 s4 W4 hB4 g4 hg4
  have fB4 := hB4.f fB2
  have z4 := hB4.below.size
  have b4_0 := hB4.b b2_0
  refine hK6 _ _ ?_
  have k4_4 := kt hg4 4 (hB4.is 7)
  refine wp_ret ?_
  refine leave_one (N := 19) (v := .int .i64 (((1000 * b.height) - cal) - cal)) (.inr rfl) Tryz.results57 rfl k4_4 ?_
  exact ⟨by rw [heightR, if_neg (by rw [hc4]; decide)], fB4⟩
end Go.Proofs.YthnediamopehfaaGreat
namespace Go.Proofs.YthnediamopehfaaGreat
theorem longB_eq (xs : List Int) (least : Int) : longB xs least = areLong least xs := by
  unfold longB areLong within
  induction xs with
  | nil => rfl
  | cons x r ih => 
    simp only [List.all_cons, List.any_cons, Bool.not_or, inB]
    congr 1
    rw [Bool.eq_iff_iff]; simp
theorem within_one (lo hi n : Int) : within lo hi [n] = inB n lo hi := by
  unfold within inB
  rw [Bool.eq_iff_iff]; simp
theorem areLong_one (lo n : Int) : areLong lo [n] = inB n lo 3000 := within_one lo 3000 n
theorem within_append (lo hi : Int) (a b : List Int) : within lo hi (a ++ b) = (within lo hi a && within lo hi b) := by
  unfold within; simp [List.any_append, Bool.not_or]
theorem areLong_append (lo : Int) (a b : List Int) : areLong lo (a ++ b) = (areLong lo a && areLong lo b) := within_append lo 3000 a b
theorem refCheck_eq (b : Bl) : refCheck b = checkErr b := by
  have e1 : refLens b = !(lensOk b) := by
    rw [Bool.eq_iff_iff]
    simp [refLens, lensOk]
    omega
  have e2 : refNums b = !(numsOk b) := by
    simp only [refNums, numsOk, longB_eq, within_one, areLong_one, areLong_append]
    cases inB b.tab 0 100 <;> cases areLong 1 b.panels <;> cases inB b.height 1 3000 <;> cases areLong 0 b.top <;> cases areLong 0 b.bottom <;> cases inB b.slot 0 20 <;> rfl
  unfold refCheck checkErr
  rw [e1, e2]
  cases hl : lensOk b with
  | false => rfl
  | true =>
    have h2 : b.top.length = 2 := by simp [lensOk] at hl; exact hl.2.1
    have e3 : refOpen b = (b.isOpen && !within 0 0 b.top) := by
      obtain ⟨t, p, h, top, u, s, o⟩ := b
      match top, h2 with
      | [x, y], _ =>
        rw [Bool.eq_iff_iff]
        simp [refOpen, within]
        omega
    rw [e3]
    cases numsOk b <;> rfl
theorem good_nums {b : Bl} (h : checkErr b = 0) : (b.panels.length = 4 ∧ b.top.length = 2 ∧ b.bottom.length = 2) ∧ (0 ≤ b.tab ∧ b.tab ≤ 100) ∧ (0 ≤ b.slot ∧ b.slot ≤ 20) ∧ (1 ≤ b.height ∧ b.height ≤ 3000) ∧
    ((1 ≤ b.panels.getD 0 0 ∧ b.panels.getD 0 0 ≤ 3000) ∧ (1 ≤ b.panels.getD 1 0 ∧ b.panels.getD 1 0 ≤ 3000) ∧ (1 ≤ b.panels.getD 2 0 ∧ b.panels.getD 2 0 ≤ 3000) ∧ (1 ≤ b.panels.getD 3 0 ∧ b.panels.getD 3 0 ≤ 3000)) ∧
    ((0 ≤ b.top.getD 0 0 ∧ b.top.getD 0 0 ≤ 3000) ∧ (0 ≤ b.top.getD 1 0 ∧ b.top.getD 1 0 ≤ 3000) ∧ (0 ≤ b.bottom.getD 0 0 ∧ b.bottom.getD 0 0 ≤ 3000) ∧ (0 ≤ b.bottom.getD 1 0 ∧ b.bottom.getD 1 0 ≤ 3000)) := by
  obtain ⟨hF, ht, hs, hp, hh, -⟩ := fine_of_check h
  obtain ⟨p0, p1, p2, p3, t0, t1, u0, u1, e1, e2, e3, r0, r1, r2, r3, s0, s1, q0, q1, rh⟩ := hF
  rw [e1] at hp
  have a0 := hp p0 (by simp); have a1 := hp p1 (by simp); have a2 := hp p2 (by simp); have a3 := hp p3 (by simp)
  rw [e1, e2, e3]
  simp only [List.length_cons, List.length_nil, List.getD_cons_zero, List.getD_cons_succ, true_and]
  refine ⟨ht, hs, hh, ⟨a0, a1, a2, a3⟩, s0, s1, q0, q1⟩
theorem large_false {b : Bl} (h : largeB b = false) : b.panels.length ≤ 10 ∧ b.top.length ≤ 10 ∧ b.bottom.length ≤ 10 := by
  simp only [largeB, Bool.or_eq_false_iff, decide_eq_false_iff_not] at h
  omega
def IsNil (v : Value) (_ : World) : Prop := ∃ a c, v = .slice a 0 c
end Go.Proofs.YthnediamopehfaaGreat
namespace Go.Proofs.YthnediamopehfaaGreat
open Go.RowKit
def flapR (b : Bl) (top outer : Bool) : Int := (if top = true then b.top else b.bottom).getD (if outer = true then 0 else 1) 0
def gapR (b : Bl) (top outer : Bool) (c : Int) : Int := (panR b (if outer = true then 1 else 0) c - 1000 * flapR b top outer) - 1000 * flapR b top outer
set_option maxRecDepth 100000 in
set_option maxHeartbeats 2000000 in
theorem gapR_any (a1 a2 a3 : Option Addr) (c1 c2 c3 : Nat) (b : Bl) (top outer : Bool) (cal : Int) (w : World) (h1 : Ii w a1 b.panels.length c1 b.panels) (h2 : Ii w a2 b.top.length c2 b.top) (h3 : Ii w a3 b.bottom.length c3 b.bottom) (hck : checkErr b = 0) (gc : 0 ≤ cal ∧ cal ≤ 100000) :
  Calls Tryz.prog 58 #[.agg #[.int .i64 b.tab, .slice (a1) (b.panels.length) (c1), .int .i64 b.height, .slice (a2) (b.top.length) (c2), .slice (a3) (b.bottom.length) (c3), .int .i64 b.slot, .bool b.isOpen], .bool top, .bool outer, .int .i64 cal] w (fun e w' => e = .returned (.int .i64 (gapR b top outer cal)) ∧ Below w.heap.size w w') := by
 have hm1 := h1.len_le
 have hm2 := h2.len_le
 have hm3 := h3.len_le
 obtain ⟨⟨hl1, hl2, hl3⟩, gt, gs, gh, ⟨gp0, gp1, gp2, gp3⟩, gt0, gt1, gu0, gu1⟩ := good_nums hck
 obtain ⟨q2, o2, hq2, hql2, hqc2⟩ := h2.at (by omega)
 obtain ⟨q3, o3, hq3, hql3, hqc3⟩ := h3.at (by omega)
 obtain ⟨t0, ht0⟩ : ∃ y, b.top.getD 0 0 = y := ⟨_, rfl⟩
 obtain ⟨t1, ht1⟩ : ∃ y, b.top.getD 1 0 = y := ⟨_, rfl⟩
 obtain ⟨u0, hu0⟩ : ∃ y, b.bottom.getD 0 0 = y := ⟨_, rfl⟩
 obtain ⟨u1, hu1⟩ : ∃ y, b.bottom.getD 1 0 = y := ⟨_, rfl⟩
 rw [ht0] at gt0; rw [ht1] at gt1; rw [hu0] at gu0; rw [hu1] at gu1
 have wp0 : panR b 0 cal = 1000 * b.panels.getD 0 0 - cal := rfl
 have wp1 : panR b 1 cal = 1000 * b.panels.getD 1 0 - cal := rfl
 refine calls_fr Tryz.func58 Tryz.ntmps58 rfl rfl fun g hg => ?_
 have k0 : g 0 = .agg #[.int .i64 b.tab, .slice (a1) (b.panels.length) (c1), .int .i64 b.height, .slice (a2) (b.top.length) (c2), .slice (a3) (b.bottom.length) (c3), .int .i64 b.slot, .bool b.isOpen] := hg 0
 have k1 : g 1 = .bool top := hg 1
 have k2 : g 2 = .bool outer := hg 2
 have k3 : g 3 = .int .i64 cal := hg 3
 clear hg
 have fB0 : Below w.heap.size w w := Below.refl _ _
 refine wp_seq_k fun K1 hK1 => ?_
 refine region_dk 2 [(4, 0), (8, 1)] [[], []] (rel [bx 0 #[.int .i64 b.tab, .slice (a1) (b.panels.length) (c1), .int .i64 b.height, .slice (a2) (b.top.length) (c2), .slice (a3) (b.bottom.length) (c3), .int .i64 b.slot, .bool b.isOpen] 24,
   is (.int .i64 0)])
  ⟨bx_k, is_k, trivial⟩
  ⟨fun f s W c d h i j a => opb rfl rfl (by simp [go_sem, a.e 0 k0]),
  fun f s W c d h i j a => opv rfl rfl (by simp [go_sem]) rfl, trivial⟩ ?_
 intro f1 s1 W1 hB1 g1 hg1
 have fB1 := hB1.f fB0
 have z1 := hB1.below.size
 obtain ⟨r1_0, br1_0⟩ := hB1.is 0
 have lr1_0 := hB1.lr 0 br1_0
 refine hK1 _ _ ?_
 have k1_1 := kt hg1 1 k1
 have k1_2 := kt hg1 2 k2
 have k1_3 := kt hg1 3 k3
 have k1_4 := kt hg1 4 r1_0
 have k1_8 := kt hg1 8 (hB1.is 1)
 refine wp_seq_k fun K2 hK2 => ?_
 refine region_dk 3 [(10, 0), (11, 1), (9, 2)] [[], [0], [0, 1]] (rel [is (.pointer (some ⟨(s1 0), 4, none⟩)),
   is (.slice (a3) (b.bottom.length) (c3)),
   is (.slice (a3) (b.bottom.length) (c3))])
  ⟨is_k, is_k, is_k, trivial⟩
  ⟨fun f s W c d h i j a => opv rfl rfl (by simp [go_sem, a.e 4 k1_4]) rfl,
  fun f s W c d h i j a => opv rfl rfl (by simp [go_sem, a.e 10 (d 0 rfl), cb br1_0 c 4]) rfl,
  fun f s W c d h i j a => opv rfl rfl (by simp [go_sem, a.e 11 (d 1 rfl)]) rfl, trivial⟩ ?_
 intro f2 s2 W2 hB2 g2 hg2
 have fB2 := hB2.f fB1
 have z2 := hB2.below.size
 have b2_0 := hB2.b br1_0
 refine hK2 _ _ ?_
 have k2_1 := kt hg2 1 k1_1
 have k2_2 := kt hg2 2 k1_2
 have k2_3 := kt hg2 3 k1_3
 have k2_4 := kt hg2 4 k1_4
 have k2_8 := kt hg2 8 k1_8
 have k2_9 := kt hg2 9 (hB2.is 2)
 refine wp_seq_k fun K3 hK3 => ?_
 refine wp_seq_k fun K4 hK4 => ?_
 refine region_dk 1 [(12, 0)] [[]] (rel [is (.bool top)])
  ⟨is_k, trivial⟩
  ⟨fun f s W c d h i j a => opv rfl rfl (by simp [go_sem, a.e 1 k2_1]) rfl, trivial⟩ ?_
 intro f3 s3 W3 hB3 g3 hg3
 have fB3 := hB3.f fB2
 have z3 := hB3.below.size
 have b3_0 := hB3.b b2_0
 refine hK4 _ _ ?_
 have k3_2 := kt hg3 2 k2_2
 have k3_3 := kt hg3 3 k2_3
 have k3_4 := kt hg3 4 k2_4
 have k3_8 := kt hg3 8 k2_8
 have k3_9 := kt hg3 9 k2_9
 have k3_12 := kt hg3 12 (hB3.is 0)
 refine wp_cond_split (t := top) ((fr_eval rfl).trans k3_12) (fun hc5 => ?_) (fun hc5 => ?_)
 ·
  have hc5' := hc5; try simp only [ba] at hc5'
  refine region_dk 3 [(13, 0), (14, 1), (9, 2)] [[], [0], [0, 1]] (rel [is (.pointer (some ⟨(s1 0), 3, none⟩)),
   is (.slice (a2) (b.top.length) (c2)),
   is (.slice (a2) (b.top.length) (c2))])
   ⟨is_k, is_k, is_k, trivial⟩
   ⟨fun f s W c d h i j a => opv rfl rfl (by simp [go_sem, a.e 4 k3_4]) rfl,
  fun f s W c d h i j a => opv rfl rfl (by simp [go_sem, a.e 13 (d 0 rfl), cb b3_0 c 3]) rfl,
  fun f s W c d h i j a => opv rfl rfl (by simp [go_sem, a.e 14 (d 1 rfl)]) rfl, trivial⟩ ?_
  intro f4 s4 W4 hB4 g4 hg4
  have fB4 := hB4.f fB3
  have z4 := hB4.below.size
  have b4_0 := hB4.b b3_0
  refine hK3 _ _ ?_
  have k4_2 := kt hg4 2 k3_2
  have k4_3 := kt hg4 3 k3_3
  have k4_4 := kt hg4 4 k3_4
  have k4_8 := kt hg4 8 k3_8
  have k4_9 := kt hg4 9 (hB4.is 2)
  refine wp_seq_k fun K6 hK6 => ?_
  refine wp_seq_k fun K7 hK7 => ?_
  refine region_dk 1 [(15, 0)] [[]] (rel [is (.bool outer)])
   ⟨is_k, trivial⟩
   ⟨fun f s W c d h i j a => opv rfl rfl (by simp [go_sem, a.e 2 k4_2]) rfl, trivial⟩ ?_
  intro f5 s5 W5 hB5 g5 hg5
  have fB5 := hB5.f fB4
  have z5 := hB5.below.size
  have b5_0 := hB5.b b4_0
  refine hK7 _ _ ?_
  have k5_3 := kt hg5 3 k4_3
  have k5_4 := kt hg5 4 k4_4
  have k5_8 := kt hg5 8 k4_8
  have k5_9 := kt hg5 9 k4_9
  have k5_15 := kt hg5 15 (hB5.is 0)
  refine wp_cond_split (t := outer) ((fr_eval rfl).trans k5_15) (fun hc8 => ?_) (fun hc8 => ?_)
  ·
   have hc8' := hc8; try simp only [ba] at hc8'
   refine wp_seq_k fun K9 hK9 => ?_
   refine region_dk 14 [(16, 0), (17, 1), (18, 2), (19, 3), (20, 4), (21, 5), (22, 6), (23, 7), (24, 8), (25, 9), (26, 10), (27, 11), (28, 12), (8, 13)] [[], [], [0, 1], [], [3], [3, 4], [3, 4, 5], [0, 1, 2, 3, 4, 5, 6], [], [8], [8, 9], [8, 9, 10], [0, 1, 2, 3, 4, 5, 6, 7, 8, 9, 10, 11], [0, 1, 2, 3, 4, 5, 6, 7, 8, 9, 10, 11, 12]] (rel [is (.agg #[.int .i64 b.tab, .slice (a1) (b.panels.length) (c1), .int .i64 b.height, .slice (a2) (b.top.length) (c2), .slice (a3) (b.bottom.length) (c3), .int .i64 b.slot, .bool b.isOpen]),
   is (.int .i64 cal),
   is (.int .i64 ((panR b 1 cal))),
   is (.slice (a2) (b.top.length) (c2)),
   is (.pointer (some ⟨q2, o2, none⟩)),
   is (.int .i64 t0),
   is (.int .i64 (1000 * t0)),
   is (.int .i64 ((panR b 1 cal) - (1000 * t0))),
   is (.slice (a2) (b.top.length) (c2)),
   is (.pointer (some ⟨q2, o2, none⟩)),
   is (.int .i64 t0),
   is (.int .i64 (1000 * t0)),
   is (.int .i64 (((panR b 1 cal) - (1000 * t0)) - (1000 * t0))),
   is (.int .i64 (((panR b 1 cal) - (1000 * t0)) - (1000 * t0)))])
    ⟨is_k, is_k, is_k, is_k, is_k, is_k, is_k, is_k, is_k, is_k, is_k, is_k, is_k, is_k, trivial⟩
    ⟨fun f s W c d h i j a => opv rfl rfl (by simp [go_sem, a.e 4 k5_4, cb b5_0 c 0, cb b5_0 c 1, cb b5_0 c 2, cb b5_0 c 3, cb b5_0 c 4, cb b5_0 c 5, cb b5_0 c 6]) rfl,
  fun f s W c d h i j a => opv rfl rfl (by simp [go_sem, a.e 3 k5_3]) rfl,
  fun f s W c d h i j a => by have k := below_trans fB5 c; exact opc (args := #[.agg #[.int .i64 b.tab, .slice (a1) (b.panels.length) (c1), .int .i64 b.height, .slice (a2) (b.top.length) (c2), .slice (a3) (b.bottom.length) (c3), .int .i64 b.slot, .bool b.isOpen], .int .i64 1, .int .i64 cal]) rfl rfl (by simp [go_sem, a.e 16 (d 0 rfl), a.e 17 (d 1 rfl)]) (panR_any a1 a2 a3 c1 c2 c3 b 1 1 _ cal W (h1.below k (Nat.le_refl _)) (h2.below k (Nat.le_refl _)) (h3.below k (Nat.le_refl _)) rfl (by omega) rfl (by omega) (by omega) (by omega) (by omega)),
  fun f s W c d h i j a => opv rfl rfl (by simp [go_sem, a.e 9 k5_9]) rfl,
  fun f s W c d h i j a => opv rfl rfl (by simp [go_sem, a.e 19 (d 3 rfl), hq2, hl2]) rfl,
  fun f s W c d h i j a => by have k := below_trans fB5 c; have u2_0 : W.cell? ⟨q2, o2, none⟩ = some (.int .i64 t0) := (k.cell (p := ⟨q2, o2, none⟩) hql2).trans (by have hq_ := hqc2 0 (by omega); rw [ht0] at hq_; exact hq_); exact opv rfl rfl (by simp [go_sem, a.e 20 (d 4 rfl), u2_0]) rfl,
  fun f s W c d h i j a => opv rfl rfl (by simp [go_sem, a.e 21 (d 5 rfl), IntWalk.i64_in (1000 * t0) (by omega)]) rfl,
  fun f s W c d h i j a => opv rfl rfl (by simp [go_sem, a.e 18 (d 2 rfl), a.e 22 (d 6 rfl), IntWalk.i64_in ((panR b 1 cal) - (1000 * t0)) (by omega)]) rfl,
  fun f s W c d h i j a => opv rfl rfl (by simp [go_sem, a.e 9 k5_9]) rfl,
  fun f s W c d h i j a => opv rfl rfl (by simp [go_sem, a.e 24 (d 8 rfl), hq2, hl2]) rfl,
  fun f s W c d h i j a => by have k := below_trans fB5 c; have u2_0 : W.cell? ⟨q2, o2, none⟩ = some (.int .i64 t0) := (k.cell (p := ⟨q2, o2, none⟩) hql2).trans (by have hq_ := hqc2 0 (by omega); rw [ht0] at hq_; exact hq_); exact opv rfl rfl (by simp [go_sem, a.e 25 (d 9 rfl), u2_0]) rfl,
  fun f s W c d h i j a => opv rfl rfl (by simp [go_sem, a.e 26 (d 10 rfl), IntWalk.i64_in (1000 * t0) (by omega)]) rfl,
  fun f s W c d h i j a => opv rfl rfl (by simp [go_sem, a.e 23 (d 7 rfl), a.e 27 (d 11 rfl), IntWalk.i64_in (((panR b 1 cal) - (1000 * t0)) - (1000 * t0)) (by omega)]) rfl,
  fun f s W c d h i j a => opv rfl rfl (by simp [go_sem, a.e 28 (d 12 rfl)]) rfl, trivial⟩ ?_
   intro f6 s6 W6 hB6 g6 hg6
   have fB6 := hB6.f fB5
   have z6 := hB6.below.size
   have b6_0 := hB6.b b5_0
   refine hK9 _ _ ?_
   have k6_3 := kt hg6 3 k5_3
   have k6_4 := kt hg6 4 k5_4
   have k6_9 := kt hg6 9 k5_9
   have k6_8 := kt hg6 8 (hB6.is 13)
   refine wp_ret ?_
   refine then_ret ?_
   refine leave_one (N := 42) (v := .int .i64 (((panR b 1 cal) - (1000 * t0)) - (1000 * t0))) (.inr rfl) Tryz.results58 rfl k6_8 ?_
   exact ⟨by rw [hc5, hc8]; show _ = Ending.returned (.int .i64 ((panR b 1 cal - 1000 * (b.top).getD 0 0) - 1000 * (b.top).getD 0 0)); rw [ht0], fB6⟩
  ·
   have hc8' := hc8; try simp only [ba] at hc8'
   refine wp_skip ?_
   refine hK6 _ _ ?_
   refine wp_seq_k fun K10 hK10 => ?_
   refine region_dk 14 [(29, 0), (30, 1), (31, 2), (32, 3), (33, 4), (34, 5), (35, 6), (36, 7), (37, 8), (38, 9), (39, 10), (40, 11), (41, 12), (8, 13)] [[], [], [0, 1], [], [3], [3, 4], [3, 4, 5], [0, 1, 2, 3, 4, 5, 6], [], [8], [8, 9], [8, 9, 10], [0, 1, 2, 3, 4, 5, 6, 7, 8, 9, 10, 11], [0, 1, 2, 3, 4, 5, 6, 7, 8, 9, 10, 11, 12]] (rel [is (.agg #[.int .i64 b.tab, .slice (a1) (b.panels.length) (c1), .int .i64 b.height, .slice (a2) (b.top.length) (c2), .slice (a3) (b.bottom.length) (c3), .int .i64 b.slot, .bool b.isOpen]),
   is (.int .i64 cal),
   is (.int .i64 ((panR b 0 cal))),
   is (.slice (a2) (b.top.length) (c2)),
   is (.pointer (some ⟨q2, o2 + 1, none⟩)),
   is (.int .i64 t1),
   is (.int .i64 (1000 * t1)),
   is (.int .i64 ((panR b 0 cal) - (1000 * t1))),
   is (.slice (a2) (b.top.length) (c2)),
   is (.pointer (some ⟨q2, o2 + 1, none⟩)),
   is (.int .i64 t1),
   is (.int .i64 (1000 * t1)),
   is (.int .i64 (((panR b 0 cal) - (1000 * t1)) - (1000 * t1))),
   is (.int .i64 (((panR b 0 cal) - (1000 * t1)) - (1000 * t1)))])
    ⟨is_k, is_k, is_k, is_k, is_k, is_k, is_k, is_k, is_k, is_k, is_k, is_k, is_k, is_k, trivial⟩
    ⟨fun f s W c d h i j a => opv rfl rfl (by simp [go_sem, a.e 4 k5_4, cb b5_0 c 0, cb b5_0 c 1, cb b5_0 c 2, cb b5_0 c 3, cb b5_0 c 4, cb b5_0 c 5, cb b5_0 c 6]) rfl,
  fun f s W c d h i j a => opv rfl rfl (by simp [go_sem, a.e 3 k5_3]) rfl,
  fun f s W c d h i j a => by have k := below_trans fB5 c; exact opc (args := #[.agg #[.int .i64 b.tab, .slice (a1) (b.panels.length) (c1), .int .i64 b.height, .slice (a2) (b.top.length) (c2), .slice (a3) (b.bottom.length) (c3), .int .i64 b.slot, .bool b.isOpen], .int .i64 0, .int .i64 cal]) rfl rfl (by simp [go_sem, a.e 29 (d 0 rfl), a.e 30 (d 1 rfl)]) (panR_any a1 a2 a3 c1 c2 c3 b 0 0 _ cal W (h1.below k (Nat.le_refl _)) (h2.below k (Nat.le_refl _)) (h3.below k (Nat.le_refl _)) rfl (by omega) rfl (by omega) (by omega) (by omega) (by omega)),
  fun f s W c d h i j a => opv rfl rfl (by simp [go_sem, a.e 9 k5_9]) rfl,
  fun f s W c d h i j a => opv rfl rfl (by simp [go_sem, a.e 32 (d 3 rfl), hq2, hl2]) rfl,
  fun f s W c d h i j a => by have k := below_trans fB5 c; have u2_1 : W.cell? ⟨q2, o2 + 1, none⟩ = some (.int .i64 t1) := (k.cell (p := ⟨q2, o2 + 1, none⟩) hql2).trans (by have hq_ := hqc2 1 (by omega); rw [ht1] at hq_; exact hq_); exact opv rfl rfl (by simp [go_sem, a.e 33 (d 4 rfl), u2_1]) rfl,
  fun f s W c d h i j a => opv rfl rfl (by simp [go_sem, a.e 34 (d 5 rfl), IntWalk.i64_in (1000 * t1) (by omega)]) rfl,
  fun f s W c d h i j a => opv rfl rfl (by simp [go_sem, a.e 31 (d 2 rfl), a.e 35 (d 6 rfl), IntWalk.i64_in ((panR b 0 cal) - (1000 * t1)) (by omega)]) rfl,
  fun f s W c d h i j a => opv rfl rfl (by simp [go_sem, a.e 9 k5_9]) rfl,
  fun f s W c d h i j a => opv rfl rfl (by simp [go_sem, a.e 37 (d 8 rfl), hq2, hl2]) rfl,
  fun f s W c d h i j a => by have k := below_trans fB5 c; have u2_1 : W.cell? ⟨q2, o2 + 1, none⟩ = some (.int .i64 t1) := (k.cell (p := ⟨q2, o2 + 1, none⟩) hql2).trans (by have hq_ := hqc2 1 (by omega); rw [ht1] at hq_; exact hq_); exact opv rfl rfl (by simp [go_sem, a.e 38 (d 9 rfl), u2_1]) rfl,
  fun f s W c d h i j a => opv rfl rfl (by simp [go_sem, a.e 39 (d 10 rfl), IntWalk.i64_in (1000 * t1) (by omega)]) rfl,
  fun f s W c d h i j a => opv rfl rfl (by simp [go_sem, a.e 36 (d 7 rfl), a.e 40 (d 11 rfl), IntWalk.i64_in (((panR b 0 cal) - (1000 * t1)) - (1000 * t1)) (by omega)]) rfl,
  fun f s W c d h i j a => opv rfl rfl (by simp [go_sem, a.e 41 (d 12 rfl)]) rfl, trivial⟩ ?_
   intro f7 s7 W7 hB7 g7 hg7
   have fB7 := hB7.f fB5
   have z7 := hB7.below.size
   have b7_0 := hB7.b b5_0
   refine hK10 _ _ ?_
   have k7_8 := kt hg7 8 (hB7.is 13)
   refine wp_ret ?_
   refine leave_one (N := 42) (v := .int .i64 (((panR b 0 cal) - (1000 * t1)) - (1000 * t1))) (.inr rfl) Tryz.results58 rfl k7_8 ?_
   exact ⟨by rw [hc5, hc8]; show _ = Ending.returned (.int .i64 ((panR b 0 cal - 1000 * (b.top).getD 1 0) - 1000 * (b.top).getD 1 0)); rw [ht1], fB7⟩
 ·
  have hc5' := hc5; try simp only [ba] at hc5'
  refine wp_skip ?_
  refine hK3 _ _ ?_
  refine wp_seq_k fun K11 hK11 => ?_
  refine wp_seq_k fun K12 hK12 => ?_
  refine region_dk 1 [(15, 0)] [[]] (rel [is (.bool outer)])
   ⟨is_k, trivial⟩
   ⟨fun f s W c d h i j a => opv rfl rfl (by simp [go_sem, a.e 2 k3_2]) rfl, trivial⟩ ?_
  intro f8 s8 W8 hB8 g8 hg8
  have fB8 := hB8.f fB3
  have z8 := hB8.below.size
  have b8_0 := hB8.b b3_0
  refine hK12 _ _ ?_
  have k8_3 := kt hg8 3 k3_3
  have k8_4 := kt hg8 4 k3_4
  have k8_8 := kt hg8 8 k3_8
  have k8_9 := kt hg8 9 k3_9
  have k8_15 := kt hg8 15 (hB8.is 0)
  refine wp_cond_split (t := outer) ((fr_eval rfl).trans k8_15) (fun hc13 => ?_) (fun hc13 => ?_)
  ·
   have hc13' := hc13; try simp only [ba] at hc13'
   refine wp_seq_k fun K14 hK14 => ?_
   refine region_dk 14 [(16, 0), (17, 1), (18, 2), (19, 3), (20, 4), (21, 5), (22, 6), (23, 7), (24, 8), (25, 9), (26, 10), (27, 11), (28, 12), (8, 13)] [[], [], [0, 1], [], [3], [3, 4], [3, 4, 5], [0, 1, 2, 3, 4, 5, 6], [], [8], [8, 9], [8, 9, 10], [0, 1, 2, 3, 4, 5, 6, 7, 8, 9, 10, 11], [0, 1, 2, 3, 4, 5, 6, 7, 8, 9, 10, 11, 12]] (rel [is (.agg #[.int .i64 b.tab, .slice (a1) (b.panels.length) (c1), .int .i64 b.height, .slice (a2) (b.top.length) (c2), .slice (a3) (b.bottom.length) (c3), .int .i64 b.slot, .bool b.isOpen]),
   is (.int .i64 cal),
   is (.int .i64 ((panR b 1 cal))),
   is (.slice (a3) (b.bottom.length) (c3)),
   is (.pointer (some ⟨q3, o3, none⟩)),
   is (.int .i64 u0),
   is (.int .i64 (1000 * u0)),
   is (.int .i64 ((panR b 1 cal) - (1000 * u0))),
   is (.slice (a3) (b.bottom.length) (c3)),
   is (.pointer (some ⟨q3, o3, none⟩)),
   is (.int .i64 u0),
   is (.int .i64 (1000 * u0)),
   is (.int .i64 (((panR b 1 cal) - (1000 * u0)) - (1000 * u0))),
   is (.int .i64 (((panR b 1 cal) - (1000 * u0)) - (1000 * u0)))])
    ⟨is_k, is_k, is_k, is_k, is_k, is_k, is_k, is_k, is_k, is_k, is_k, is_k, is_k, is_k, trivial⟩
    ⟨fun f s W c d h i j a => opv rfl rfl (by simp [go_sem, a.e 4 k8_4, cb b8_0 c 0, cb b8_0 c 1, cb b8_0 c 2, cb b8_0 c 3, cb b8_0 c 4, cb b8_0 c 5, cb b8_0 c 6]) rfl,
  fun f s W c d h i j a => opv rfl rfl (by simp [go_sem, a.e 3 k8_3]) rfl,
  fun f s W c d h i j a => by have k := below_trans fB8 c; exact opc (args := #[.agg #[.int .i64 b.tab, .slice (a1) (b.panels.length) (c1), .int .i64 b.height, .slice (a2) (b.top.length) (c2), .slice (a3) (b.bottom.length) (c3), .int .i64 b.slot, .bool b.isOpen], .int .i64 1, .int .i64 cal]) rfl rfl (by simp [go_sem, a.e 16 (d 0 rfl), a.e 17 (d 1 rfl)]) (panR_any a1 a2 a3 c1 c2 c3 b 1 1 _ cal W (h1.below k (Nat.le_refl _)) (h2.below k (Nat.le_refl _)) (h3.below k (Nat.le_refl _)) rfl (by omega) rfl (by omega) (by omega) (by omega) (by omega)),
  fun f s W c d h i j a => opv rfl rfl (by simp [go_sem, a.e 9 k8_9]) rfl,
  fun f s W c d h i j a => opv rfl rfl (by simp [go_sem, a.e 19 (d 3 rfl), hq3, hl3]) rfl,
  fun f s W c d h i j a => by have k := below_trans fB8 c; have u3_0 : W.cell? ⟨q3, o3, none⟩ = some (.int .i64 u0) := (k.cell (p := ⟨q3, o3, none⟩) hql3).trans (by have hq_ := hqc3 0 (by omega); rw [hu0] at hq_; exact hq_); exact opv rfl rfl (by simp [go_sem, a.e 20 (d 4 rfl), u3_0]) rfl,
  fun f s W c d h i j a => opv rfl rfl (by simp [go_sem, a.e 21 (d 5 rfl), IntWalk.i64_in (1000 * u0) (by omega)]) rfl,
  fun f s W c d h i j a => opv rfl rfl (by simp [go_sem, a.e 18 (d 2 rfl), a.e 22 (d 6 rfl), IntWalk.i64_in ((panR b 1 cal) - (1000 * u0)) (by omega)]) rfl,
  fun f s W c d h i j a => opv rfl rfl (by simp [go_sem, a.e 9 k8_9]) rfl,
  fun f s W c d h i j a => opv rfl rfl (by simp [go_sem, a.e 24 (d 8 rfl), hq3, hl3]) rfl,
  fun f s W c d h i j a => by have k := below_trans fB8 c; have u3_0 : W.cell? ⟨q3, o3, none⟩ = some (.int .i64 u0) := (k.cell (p := ⟨q3, o3, none⟩) hql3).trans (by have hq_ := hqc3 0 (by omega); rw [hu0] at hq_; exact hq_); exact opv rfl rfl (by simp [go_sem, a.e 25 (d 9 rfl), u3_0]) rfl,
  fun f s W c d h i j a => opv rfl rfl (by simp [go_sem, a.e 26 (d 10 rfl), IntWalk.i64_in (1000 * u0) (by omega)]) rfl,
  fun f s W c d h i j a => opv rfl rfl (by simp [go_sem, a.e 23 (d 7 rfl), a.e 27 (d 11 rfl), IntWalk.i64_in (((panR b 1 cal) - (1000 * u0)) - (1000 * u0)) (by omega)]) rfl,
  fun f s W c d h i j a => opv rfl rfl (by simp [go_sem, a.e 28 (d 12 rfl)]) rfl, trivial⟩ ?_
   intro f9 s9 W9 hB9 g9 hg9
   have fB9 := hB9.f fB8
   have z9 := hB9.below.size
   have b9_0 := hB9.b b8_0
   refine hK14 _ _ ?_
   have k9_3 := kt hg9 3 k8_3
   have k9_4 := kt hg9 4 k8_4
   have k9_9 := kt hg9 9 k8_9
   have k9_8 := kt hg9 8 (hB9.is 13)
   refine wp_ret ?_
   refine then_ret ?_
   refine leave_one (N := 42) (v := .int .i64 (((panR b 1 cal) - (1000 * u0)) - (1000 * u0))) (.inr rfl) Tryz.results58 rfl k9_8 ?_
   exact ⟨by rw [hc5, hc13]; show _ = Ending.returned (.int .i64 ((panR b 1 cal - 1000 * (b.bottom).getD 0 0) - 1000 * (b.bottom).getD 0 0)); rw [hu0], fB9⟩
  ·
   have hc13' := hc13; try simp only [ba] at hc13'
   refine wp_skip ?_
   refine hK11 _ _ ?_
   refine wp_seq_k fun K15 hK15 => ?_
   refine region_dk 14 [(29, 0), (30, 1), (31, 2), (32, 3), (33, 4), (34, 5), (35, 6), (36, 7), (37, 8), (38, 9), (39, 10), (40, 11), (41, 12), (8, 13)] [[], [], [0, 1], [], [3], [3, 4], [3, 4, 5], [0, 1, 2, 3, 4, 5, 6], [], [8], [8, 9], [8, 9, 10], [0, 1, 2, 3, 4, 5, 6, 7, 8, 9, 10, 11], [0, 1, 2, 3, 4, 5, 6, 7, 8, 9, 10, 11, 12]] (rel [is (.agg #[.int .i64 b.tab, .slice (a1) (b.panels.length) (c1), .int .i64 b.height, .slice (a2) (b.top.length) (c2), .slice (a3) (b.bottom.length) (c3), .int .i64 b.slot, .bool b.isOpen]),
   is (.int .i64 cal),
   is (.int .i64 ((panR b 0 cal))),
   is (.slice (a3) (b.bottom.length) (c3)),
   is (.pointer (some ⟨q3, o3 + 1, none⟩)),
   is (.int .i64 u1),
   is (.int .i64 (1000 * u1)),
   is (.int .i64 ((panR b 0 cal) - (1000 * u1))),
   is (.slice (a3) (b.bottom.length) (c3)),
   is (.pointer (some ⟨q3, o3 + 1, none⟩)),
   is (.int .i64 u1),
   is (.int .i64 (1000 * u1)),
   is (.int .i64 (((panR b 0 cal) - (1000 * u1)) - (1000 * u1))),
   is (.int .i64 (((panR b 0 cal) - (1000 * u1)) - (1000 * u1)))])
    ⟨is_k, is_k, is_k, is_k, is_k, is_k, is_k, is_k, is_k, is_k, is_k, is_k, is_k, is_k, trivial⟩
    ⟨fun f s W c d h i j a => opv rfl rfl (by simp [go_sem, a.e 4 k8_4, cb b8_0 c 0, cb b8_0 c 1, cb b8_0 c 2, cb b8_0 c 3, cb b8_0 c 4, cb b8_0 c 5, cb b8_0 c 6]) rfl,
  fun f s W c d h i j a => opv rfl rfl (by simp [go_sem, a.e 3 k8_3]) rfl,
  fun f s W c d h i j a => by have k := below_trans fB8 c; exact opc (args := #[.agg #[.int .i64 b.tab, .slice (a1) (b.panels.length) (c1), .int .i64 b.height, .slice (a2) (b.top.length) (c2), .slice (a3) (b.bottom.length) (c3), .int .i64 b.slot, .bool b.isOpen], .int .i64 0, .int .i64 cal]) rfl rfl (by simp [go_sem, a.e 29 (d 0 rfl), a.e 30 (d 1 rfl)]) (panR_any a1 a2 a3 c1 c2 c3 b 0 0 _ cal W (h1.below k (Nat.le_refl _)) (h2.below k (Nat.le_refl _)) (h3.below k (Nat.le_refl _)) rfl (by omega) rfl (by omega) (by omega) (by omega) (by omega)),
  fun f s W c d h i j a => opv rfl rfl (by simp [go_sem, a.e 9 k8_9]) rfl,
  fun f s W c d h i j a => opv rfl rfl (by simp [go_sem, a.e 32 (d 3 rfl), hq3, hl3]) rfl,
  fun f s W c d h i j a => by have k := below_trans fB8 c; have u3_1 : W.cell? ⟨q3, o3 + 1, none⟩ = some (.int .i64 u1) := (k.cell (p := ⟨q3, o3 + 1, none⟩) hql3).trans (by have hq_ := hqc3 1 (by omega); rw [hu1] at hq_; exact hq_); exact opv rfl rfl (by simp [go_sem, a.e 33 (d 4 rfl), u3_1]) rfl,
  fun f s W c d h i j a => opv rfl rfl (by simp [go_sem, a.e 34 (d 5 rfl), IntWalk.i64_in (1000 * u1) (by omega)]) rfl,
  fun f s W c d h i j a => opv rfl rfl (by simp [go_sem, a.e 31 (d 2 rfl), a.e 35 (d 6 rfl), IntWalk.i64_in ((panR b 0 cal) - (1000 * u1)) (by omega)]) rfl,
  fun f s W c d h i j a => opv rfl rfl (by simp [go_sem, a.e 9 k8_9]) rfl,
  fun f s W c d h i j a => opv rfl rfl (by simp [go_sem, a.e 37 (d 8 rfl), hq3, hl3]) rfl,
  fun f s W c d h i j a => by have k := below_trans fB8 c; have u3_1 : W.cell? ⟨q3, o3 + 1, none⟩ = some (.int .i64 u1) := (k.cell (p := ⟨q3, o3 + 1, none⟩) hql3).trans (by have hq_ := hqc3 1 (by omega); rw [hu1] at hq_; exact hq_); exact opv rfl rfl (by simp [go_sem, a.e 38 (d 9 rfl), u3_1]) rfl,
  fun f s W c d h i j a => opv rfl rfl (by simp [go_sem, a.e 39 (d 10 rfl), IntWalk.i64_in (1000 * u1) (by omega)]) rfl,
  fun f s W c d h i j a => opv rfl rfl (by simp [go_sem, a.e 36 (d 7 rfl), a.e 40 (d 11 rfl), IntWalk.i64_in (((panR b 0 cal) - (1000 * u1)) - (1000 * u1)) (by omega)]) rfl,
  fun f s W c d h i j a => opv rfl rfl (by simp [go_sem, a.e 41 (d 12 rfl)]) rfl, trivial⟩ ?_
   intro f10 s10 W10 hB10 g10 hg10
   have fB10 := hB10.f fB8
   have z10 := hB10.below.size
   have b10_0 := hB10.b b8_0
   refine hK15 _ _ ?_
   have k10_8 := kt hg10 8 (hB10.is 13)
   refine wp_ret ?_
   refine leave_one (N := 42) (v := .int .i64 (((panR b 0 cal) - (1000 * u1)) - (1000 * u1))) (.inr rfl) Tryz.results58 rfl k10_8 ?_
   exact ⟨by rw [hc5, hc13]; show _ = Ending.returned (.int .i64 ((panR b 0 cal - 1000 * (b.bottom).getD 1 0) - 1000 * (b.bottom).getD 1 0)); rw [hu1], fB10⟩
end Go.Proofs.YthnediamopehfaaGreat
namespace Go.Proofs.YthnediamopehfaaGreat
theorem spanR_eq (lo hi least most : Int) : spanR lo hi least most = isSpan (lo, hi) least most := by
  unfold spanR isSpan within inB
  rw [Bool.eq_iff_iff]
  simp
  omega
theorem isSpan_iff {lo hi : Int} : isSpan (lo, hi) 1 10000 = true ↔ 1 ≤ lo ∧ lo ≤ hi ∧ hi ≤ 10000 := by
  rw [← spanR_eq]; unfold spanR inB; simp [and_assoc]
end Go.Proofs.YthnediamopehfaaGreat
namespace Go.Proofs.YthnediamopehfaaGreat
open Go.RowKit
/-- All whole numbers of a span. -/
def rangeL (lo hi : Int) : List Int := (List.range (hi + 1 - lo).toNat).map fun (k : Nat) => lo + (k : Int)
theorem rangeL_len (lo hi : Int) : (rangeL lo hi).length = (hi + 1 - lo).toNat := by simp [rangeL]
theorem rangeL_get {lo hi : Int} {i : Nat} (h : i < (rangeL lo hi).length) : (rangeL lo hi).getD i 0 = lo + (i : Int) := by
  rw [rangeL_len] at h
  simp [rangeL, List.getD_eq_getElem?_getD, h]
theorem rangeL_snoc {lo x : Int} (h : lo ≤ x) : rangeL lo (x - 1) ++ [x] = rangeL lo x := by
  unfold rangeL
  rw [show (x + 1 - lo).toNat = (x - 1 + 1 - lo).toNat + 1 from by omega, List.range_succ, List.map_append]
  congr 1
  simp; omega
theorem rangeL_nil {lo hi : Int} (h : hi < lo) : rangeL lo hi = [] := by
  have : (hi + 1 - lo).toNat = 0 := by omega
  simp [rangeL, this]
def aroundL (n off least : Int) : List Int := rangeL (max least (n - off)) (min 3000 (n + off))
theorem around_hit {n off least x : Int} (h1 : n - off ≤ x) (h : inB x least 3000 = true) : rangeL (max least (n - off)) (min 3000 (x - 1)) ++ [x] = rangeL (max least (n - off)) (min 3000 (x + 1 - 1)) := by
  simp only [inB, Bool.and_eq_true, decide_eq_true_eq] at h
  rw [show min 3000 (x - 1) = x - 1 from by omega, show min 3000 (x + 1 - 1) = x from by omega]
  exact rangeL_snoc (by omega)
theorem around_miss {n off least x : Int} (h1 : n - off ≤ x) (hl : least ≤ 3000) (h : inB x least 3000 = false) : rangeL (max least (n - off)) (min 3000 (x - 1)) = rangeL (max least (n - off)) (min 3000 (x + 1 - 1)) := by
  simp only [inB, Bool.and_eq_false_iff, decide_eq_false_iff_not] at h
  rcases h with h | h
  · rw [rangeL_nil (by omega), rangeL_nil (by omega)]
  · rw [show min 3000 (x - 1) = min 3000 (x + 1 - 1) from by omega]
/-- A list in a row that was made, from block B on, or nil. -/
def NwA (B : Nat) (xs : List Int) (v : Value) (W : World) : Prop := ∃ a c, v = .slice a xs.length c ∧ Ii W a xs.length c xs ∧ ∀ g o, a = some ⟨g, o, none⟩ → B ≤ g ∧ g < W.heap.size
theorem NwA.below {B : Nat} {xs : List Int} {v : Value} {W W' : World} (h : NwA B xs v W) (hb : Below W.heap.size W W') : NwA B xs v W' := by
  obtain ⟨a, c, e, h, l⟩ := h
  exact ⟨a, c, e, h.below hb (Nat.le_refl _), fun g o e => ⟨(l g o e).1, Nat.lt_of_lt_of_le (l g o e).2 hb.size⟩⟩
def NwAP (xs : List Int) (w : World) (e : Ending) (w' : World) : Prop := ∃ v, e = .returned v ∧ NwA w.heap.size xs v w' ∧ Below w.heap.size w w'
theorem OwnV.lims {T : TypeId} {z B n c : Nat} {cs : List Value} {a : Option Addr} {W : World} (h : OwnV T z B cs n a c W) : ∀ g o, a = some ⟨g, o, none⟩ → B ≤ g ∧ g < W.heap.size := fun g o e => h.2.1 _ e
theorem nwa_as {xs ys : List Int} {fn : FuncId} {args : Array Value} {w : World} (e : xs = ys) (h : Calls Tryz.prog fn args w (NwAP xs w)) : Calls Tryz.prog fn args w (NwAP ys w) := e ▸ h
def stepS (s : Sp) (n : Int) : Sp := (min s.1 n, max s.2 n)
def inn (val : Int → Int → Int) (p F : Int) : Nat → Sp → Sp
  | 0, s => s
  | k + 1, s => stepS (inn val p F k s) (val p (F + (k : Int)))
def outn (val : Int → Int → Int) (L F : Int) (m : Nat) : Nat → Sp → Sp
  | 0, s => s
  | i + 1, s => inn val (L + (i : Int)) F m (outn val L F m i s)
theorem inn_eq {val : Int → Int → Int} {p F : Int} (hf : ∀ f g, f ≤ g → val p g ≤ val p f) (s : Sp) : ∀ k : Nat, inn val p F (k + 1) s = (min s.1 (val p (F + (k : Int))), max s.2 (val p F))
  | 0 => by simp [inn, stepS]
  | k + 1 => by
    have ih := inn_eq (F := F) hf s k
    have h1 := hf (F + (k : Int)) (F + ((k + 1 : Nat) : Int)) (by omega)
    have h2 := hf F (F + ((k + 1 : Nat) : Int)) (by omega)
    rw [inn, ih]
    simp only [stepS, Prod.mk.injEq]
    omega
theorem outn_eq {val : Int → Int → Int} {L F : Int} {m : Nat} (hf : ∀ p f g, f ≤ g → val p g ≤ val p f) (hp : ∀ p q f, p ≤ q → val p f ≤ val q f) (s : Sp) : ∀ i : Nat, outn val L F (m + 1) (i + 1) s = (min s.1 (val L (F + (m : Int))), max s.2 (val (L + (i : Int)) F))
  | 0 => by simp [outn, inn_eq (hf L) s m]
  | i + 1 => by
    have ih := outn_eq (L := L) (F := F) (m := m) hf hp s i
    have h1 := hp L (L + ((i + 1 : Nat) : Int)) (F + (m : Int)) (by omega)
    have h2 := hp (L + (i : Int)) (L + ((i + 1 : Nat) : Int)) F (by omega)
    rw [outn, inn_eq (hf _) _ m, ih]
    simp only [Prod.mk.injEq]
    omega
/-- The kind of a measure's flaps. -/
def kindR (m : Nat) : Nat := (m + 1) % 2
def longOf (b : Bl) (m : Nat) : Int := if m < 4 then b.panels.getD m 0 else if m = 4 then b.height else b.panels.getD (1 - kindR m) 0
def longR (b : Bl) (m : Nat) (off : Int) : Sp := (max 1 (longOf b m - off), min 3000 (longOf b m + off))
def flapOf (b : Bl) (m : Nat) : Int := if 6 < m then b.bottom.getD (kindR m) 0 else b.top.getD (kindR m) 0
def flapsR (b : Bl) (m : Nat) (off : Int) : Sp := if m < 5 ∨ (m < 7 ∧ b.isOpen = true) then (0, 0) else (max 0 (flapOf b m - off), min 3000 (flapOf b m + off))
def valR (b : Bl) (m : Nat) (c p f : Int) : Int := if m < 4 then 1000 * p - c else if m = 4 then (if b.isOpen = true then 1000 * p - c else 1000 * p - c - c) else (1000 * p - c - 1000 * f) - 1000 * f
def widR (b : Bl) (m : Nat) (c off : Int) (s : Sp) : Sp :=
  outn (valR b m c) (longR b m off).1 (flapsR b m off).1 ((flapsR b m off).2 + 1 - (flapsR b m off).1).toNat ((longR b m off).2 + 1 - (longR b m off).1).toNat s
theorem valR_f (b : Bl) (m : Nat) (c p f g : Int) (h : f ≤ g) : valR b m c p g ≤ valR b m c p f := by unfold valR; (repeat' split) <;> omega
theorem valR_p (b : Bl) (m : Nat) (c p q f : Int) (h : p ≤ q) : valR b m c p f ≤ valR b m c q f := by unfold valR; (repeat' split) <;> omega
theorem outn_len {val : Int → Int → Int} {L U F G : Int} (hf : ∀ p f g, f ≤ g → val p g ≤ val p f) (hp : ∀ p q f, p ≤ q → val p f ≤ val q f) (s : Sp) (h1 : L ≤ U) (h2 : F ≤ G) :
    outn val L F (G + 1 - F).toNat (U + 1 - L).toNat s = (min s.1 (val L G), max s.2 (val U F)) := by
  obtain ⟨m, hm⟩ : ∃ m : Nat, G - F = m := ⟨(G - F).toNat, by omega⟩
  obtain ⟨i, hi⟩ : ∃ i : Nat, U - L = i := ⟨(U - L).toNat, by omega⟩
  rw [show (G + 1 - F).toNat = m + 1 from by omega, show (U + 1 - L).toNat = i + 1 from by omega, outn_eq hf hp]
  rw [show F + (m : Int) = G from by omega, show L + (i : Int) = U from by omega]
theorem long_in {b : Bl} (h : checkErr b = 0) {m : Nat} (hm : m < 9) : 1 ≤ longOf b m ∧ longOf b m ≤ 3000 := by
  obtain ⟨-, -, -, hh, ⟨p0, p1, p2, p3⟩, -⟩ := good_nums h
  match m, hm with
  | 0, _ => exact p0
  | 1, _ => exact p1
  | 2, _ => exact p2
  | 3, _ => exact p3
  | 4, _ => exact hh
  | 5, _ => exact p1
  | 6, _ => exact p0
  | 7, _ => exact p1
  | 8, _ => exact p0
theorem flap_in {b : Bl} (h : checkErr b = 0) {m : Nat} : 0 ≤ flapOf b m ∧ flapOf b m ≤ 3000 := by
  obtain ⟨-, -, -, -, -, t0, t1, u0, u1⟩ := good_nums h
  have hk : kindR m = 0 ∨ kindR m = 1 := by unfold kindR; omega
  unfold flapOf
  rcases hk with e | e <;> rw [e] <;> split <;> assumption
theorem widR_eq {b : Bl} (h : checkErr b = 0) {m : Nat} (hm : m < 9) {off : Int} (h0 : 0 ≤ off) (c : Int) (s : Sp) :
    widR b m c off s = (min s.1 (valR b m c (longR b m off).1 (flapsR b m off).2), max s.2 (valR b m c (longR b m off).2 (flapsR b m off).1)) := by
  have hl := long_in h hm
  have hf := flap_in (m := m) h
  refine outn_len (valR_f b m c) (valR_p b m c) s (by unfold longR; simp only; omega) ?_
  unfold flapsR
  split
  · simp
  · simp only; omega
theorem open_top {b : Bl} (h : checkErr b = 0) (ho : b.isOpen = true) : b.top.getD 0 0 = 0 ∧ b.top.getD 1 0 = 0 := by
  obtain ⟨⟨-, h2, -⟩, -⟩ := good_nums h
  unfold checkErr at h
  split at h
  · cases h
  · split at h
    · cases h
    · split at h
      · cases h
      · rename_i hn
        obtain ⟨t, p, hh, top, u, s, o⟩ := b
        simp only at ho h2 hn
        match top, h2 with
        | [x, y], _ =>
          simp [ho, within] at hn
          simp; omega
theorem wide_all {b : Bl} (h : checkErr b = 0) {m : Nat} (hm : m < 9) {off lo hi : Int} (h0 : 0 ≤ off) (h5 : off ≤ 5) (h1 : 1 ≤ lo) (h2 : lo ≤ hi) (h3 : hi ≤ 10000) :
    widR b m hi off (widR b m lo off (1099511627776, -1099511627776)) = (innerL b (lo, hi) off).getD m (0, 0) := by
  rw [widR_eq h hm h0, widR_eq h hm h0]
  have hl := long_in h hm
  have hf := flap_in (m := m) h
  obtain ⟨⟨hp, ht, hu⟩, -, -, hh, ⟨p0, p1, p2, p3⟩, t0, t1, u0, u1⟩ := good_nums h
  have hv : ∀ c p f, 1 ≤ p → p ≤ 3000 → 0 ≤ f → f ≤ 3000 → 1 ≤ c → c ≤ 10000 → -1099511627776 ≤ valR b m c p f ∧ valR b m c p f ≤ 1099511627776 := by
    intro c p f _ _ _ _ _ _; unfold valR; (repeat' split) <;> omega
  have hc : ∀ p f, valR b m hi p f ≤ valR b m lo p f := by intro p f; unfold valR; (repeat' split) <;> omega
  have hL : (1 ≤ (longR b m off).1 ∧ (longR b m off).1 ≤ 3000) ∧ (1 ≤ (longR b m off).2 ∧ (longR b m off).2 ≤ 3000) := by unfold longR; simp only; omega
  have hF : (0 ≤ (flapsR b m off).1 ∧ (flapsR b m off).1 ≤ 3000) ∧ (0 ≤ (flapsR b m off).2 ∧ (flapsR b m off).2 ≤ 3000) := by
    unfold flapsR; split
    · simp
    · simp only; omega
  have e : (min (min 1099511627776 (valR b m lo (longR b m off).1 (flapsR b m off).2)) (valR b m hi (longR b m off).1 (flapsR b m off).2), max (max (-1099511627776) (valR b m lo (longR b m off).2 (flapsR b m off).1)) (valR b m hi (longR b m off).2 (flapsR b m off).1)) = (valR b m hi (longR b m off).1 (flapsR b m off).2, valR b m lo (longR b m off).2 (flapsR b m off).1) := by
    have a1 := hv lo (longR b m off).1 (flapsR b m off).2 (by omega) (by omega) (by omega) (by omega) (by omega) (by omega)
    have a2 := hv lo (longR b m off).2 (flapsR b m off).1 (by omega) (by omega) (by omega) (by omega) (by omega) (by omega)
    have a3 := hc (longR b m off).1 (flapsR b m off).2
    have a4 := hc (longR b m off).2 (flapsR b m off).1
    simp only [Prod.mk.injEq]; omega
  simp only at e ⊢
  rw [e]
  have hop := open_top h
  obtain ⟨tab, panels, height, top, bottom, slot, op⟩ := b
  simp only at hp ht hu hh p0 p1 p2 p3 t0 t1 u0 u1 hop hl hf
  match panels, hp with
  | [q0, q1, q2, q3], _ =>
    match top, ht with
    | [r0, r1], _ =>
      match bottom, hu with
      | [v0, v1], _ =>
        simp only [List.getD_cons_zero, List.getD_cons_succ] at p0 p1 p2 p3 t0 t1 u0 u1 hop
        clear e hv hc hL hF hl hf
        cases op with
        | false =>
          match m, hm with
          | 0, _ => simp [innerL, offB, meas, measOf, clamp, valR, longR, longOf, flapsR, foldsOf]; omega
          | 1, _ => simp [innerL, offB, meas, measOf, clamp, valR, longR, longOf, flapsR, foldsOf]; omega
          | 2, _ => simp [innerL, offB, meas, measOf, clamp, valR, longR, longOf, flapsR, foldsOf]; omega
          | 3, _ => simp [innerL, offB, meas, measOf, clamp, valR, longR, longOf, flapsR, foldsOf]; omega
          | 4, _ => simp [innerL, offB, meas, measOf, clamp, valR, longR, longOf, flapsR, foldsOf]; omega
          | 5, _ => simp [innerL, offB, meas, measOf, clamp, valR, longR, longOf, flapsR, flapOf, kindR, foldsOf]; omega
          | 6, _ => simp [innerL, offB, meas, measOf, clamp, valR, longR, longOf, flapsR, flapOf, kindR, foldsOf]; omega
          | 7, _ => simp [innerL, offB, meas, measOf, clamp, valR, longR, longOf, flapsR, flapOf, kindR, foldsOf]; omega
          | 8, _ => simp [innerL, offB, meas, measOf, clamp, valR, longR, longOf, flapsR, flapOf, kindR, foldsOf]; omega
        | true =>
          obtain ⟨rfl, rfl⟩ := hop rfl
          match m, hm with
          | 0, _ => simp [innerL, offB, meas, measOf, clamp, valR, longR, longOf, flapsR, foldsOf]; omega
          | 1, _ => simp [innerL, offB, meas, measOf, clamp, valR, longR, longOf, flapsR, foldsOf]; omega
          | 2, _ => simp [innerL, offB, meas, measOf, clamp, valR, longR, longOf, flapsR, foldsOf]; omega
          | 3, _ => simp [innerL, offB, meas, measOf, clamp, valR, longR, longOf, flapsR, foldsOf]; omega
          | 4, _ => simp [innerL, offB, meas, measOf, clamp, valR, longR, longOf, flapsR, foldsOf]; omega
          | 5, _ => simp [innerL, offB, meas, measOf, clamp, valR, longR, longOf, flapsR, flapOf, kindR, foldsOf]; omega
          | 6, _ => simp [innerL, offB, meas, measOf, clamp, valR, longR, longOf, flapsR, flapOf, kindR, foldsOf]; omega
          | 7, _ => simp [innerL, offB, meas, measOf, clamp, valR, longR, longOf, flapsR, flapOf, kindR, foldsOf]; omega
          | 8, _ => simp [innerL, offB, meas, measOf, clamp, valR, longR, longOf, flapsR, flapOf, kindR, foldsOf]; omega
end Go.Proofs.YthnediamopehfaaGreat
namespace Go.Proofs.YthnediamopehfaaGreat
open Go.RowKit
theorem wid_A {b : Bl} (hck : checkErr b = 0) {k : Nat} (hk : k < 4) {off : Int} (h0 : 0 ≤ off) (c : Int) (s : Sp) :
    ∃ (L U : Int) (O : Nat → Sp), (1 ≤ L ∧ L ≤ U ∧ U ≤ 3000) ∧ aroundL (b.panels.getD k 0) off 1 = rangeL L U ∧ O 0 = s ∧ (∀ i : Nat, O (i + 1) = (min (O i).1 (1000 * (L + (i : Int)) - c), max (O i).2 (1000 * (L + (i : Int)) - c))) ∧ O (U + 1 - L).toNat = widR b k c off s := by
  have hl := long_in hck (by omega : k < 9)
  have e1 : longOf b k = b.panels.getD k 0 := by unfold longOf; rw [if_pos hk]
  have e2 : flapsR b k off = (0, 0) := by unfold flapsR; rw [if_pos (.inl (by omega))]
  refine ⟨(longR b k off).1, (longR b k off).2, fun i => outn (valR b k c) (longR b k off).1 (flapsR b k off).1 ((flapsR b k off).2 + 1 - (flapsR b k off).1).toNat i s, ?_, ?_, rfl, fun i => ?_, rfl⟩
  · unfold longR; simp only; omega
  · rw [← e1]; rfl
  · simp only [e2]
    show inn (valR b k c) _ 0 1 _ = _
    have e3 : ∀ p f, valR b k c p f = 1000 * p - c := fun p f => by unfold valR; rw [if_pos hk]
    simp only [inn, stepS, e3]
theorem wid_B {b : Bl} (hck : checkErr b = 0) {off : Int} (h0 : 0 ≤ off) (c : Int) (s : Sp) :
    ∃ (L U : Int) (O : Nat → Sp), (1 ≤ L ∧ L ≤ U ∧ U ≤ 3000) ∧ aroundL b.height off 1 = rangeL L U ∧ O 0 = s ∧ (∀ i : Nat, O (i + 1) = (min (O i).1 (if b.isOpen = true then 1000 * (L + (i : Int)) - c else 1000 * (L + (i : Int)) - c - c), max (O i).2 (if b.isOpen = true then 1000 * (L + (i : Int)) - c else 1000 * (L + (i : Int)) - c - c))) ∧ O (U + 1 - L).toNat = widR b 4 c off s := by
  have hl := long_in hck (by omega : 4 < 9)
  have e1 : longOf b 4 = b.height := rfl
  have e2 : flapsR b 4 off = (0, 0) := by unfold flapsR; rw [if_pos (.inl (by omega))]
  refine ⟨(longR b 4 off).1, (longR b 4 off).2, fun i => outn (valR b 4 c) (longR b 4 off).1 (flapsR b 4 off).1 ((flapsR b 4 off).2 + 1 - (flapsR b 4 off).1).toNat i s, ?_, ?_, rfl, fun i => ?_, rfl⟩
  · unfold longR; simp only; omega
  · rw [← e1]; rfl
  · simp only [e2]
    show inn (valR b 4 c) _ 0 1 _ = _
    have e3 : ∀ p f, valR b 4 c p f = if b.isOpen = true then 1000 * p - c else 1000 * p - c - c := fun p f => by unfold valR; rw [if_neg (by omega), if_pos rfl]
    simp only [inn, stepS, e3]
theorem wid_C {b : Bl} (hck : checkErr b = 0) {m : Nat} (hm : 5 ≤ m) (hm' : m < 9) {off : Int} (h0 : 0 ≤ off) (c : Int) (s : Sp) :
    ∃ (L U F G : Int) (O : Nat → Sp) (I : Nat → Nat → Sp), (1 ≤ L ∧ L ≤ U ∧ U ≤ 3000) ∧ (0 ≤ F ∧ F ≤ G ∧ G ≤ 3000) ∧ aroundL (b.panels.getD (1 - kindR m) 0) off 1 = rangeL L U ∧
      (6 < m → aroundL (b.bottom.getD (kindR m) 0) off 0 = rangeL F G) ∧ (¬ 6 < m → b.isOpen = false → aroundL (b.top.getD (kindR m) 0) off 0 = rangeL F G) ∧ (¬ 6 < m → b.isOpen = true → [0] = rangeL F G) ∧
      O 0 = s ∧ (∀ i, I i 0 = O i) ∧ (∀ i j : Nat, I i (j + 1) = (min (I i j).1 ((1000 * (L + (i : Int)) - c - 1000 * (F + (j : Int))) - 1000 * (F + (j : Int))), max (I i j).2 ((1000 * (L + (i : Int)) - c - 1000 * (F + (j : Int))) - 1000 * (F + (j : Int))))) ∧
      (∀ i, O (i + 1) = I i (G + 1 - F).toNat) ∧ O (U + 1 - L).toNat = widR b m c off s := by
  have hl := long_in hck hm'
  have hf := flap_in (m := m) hck
  have e1 : longOf b m = b.panels.getD (1 - kindR m) 0 := by unfold longOf; rw [if_neg (by omega), if_neg (by omega)]
  refine ⟨(longR b m off).1, (longR b m off).2, (flapsR b m off).1, (flapsR b m off).2, fun i => outn (valR b m c) (longR b m off).1 (flapsR b m off).1 ((flapsR b m off).2 + 1 - (flapsR b m off).1).toNat i s, fun i j => inn (valR b m c) ((longR b m off).1 + (i : Int)) (flapsR b m off).1 j (outn (valR b m c) (longR b m off).1 (flapsR b m off).1 ((flapsR b m off).2 + 1 - (flapsR b m off).1).toNat i s), ?_, ?_, ?_, ?_, ?_, ?_, rfl, fun _ => rfl, fun i j => ?_, fun _ => rfl, rfl⟩
  · unfold longR; simp only; omega
  · unfold flapsR; split
    · simp
    · simp only; omega
  · rw [← e1]; rfl
  · intro h
    have e2 : flapOf b m = b.bottom.getD (kindR m) 0 := by unfold flapOf; rw [if_pos h]
    rw [← e2]; unfold flapsR; rw [if_neg (by omega)]; rfl
  · intro h ho
    have e2 : flapOf b m = b.top.getD (kindR m) 0 := by unfold flapOf; rw [if_neg h]
    rw [← e2]; unfold flapsR; rw [if_neg (by rw [ho]; simp; omega)]; rfl
  · intro h ho
    unfold flapsR; rw [if_pos (.inr ⟨by omega, ho⟩)]; rfl
  · have e3 : ∀ p f, valR b m c p f = (1000 * p - c - 1000 * f) - 1000 * f := fun p f => by unfold valR; rw [if_neg (by omega), if_neg (by omega)]
    simp only [inn, stepS, e3]
theorem OwnI.iin {B : Nat} {xs : List Int} {g c n : Nat} {W : World} (h : OwnI B xs g c W) (hn : xs.length = n) : Ii W (some ⟨g, 0, none⟩) n c xs := hn ▸ h.ii
theorem get4_in {p0 p1 p2 p3 lo hi : Int} (h0 : lo ≤ p0 ∧ p0 ≤ hi) (h1 : lo ≤ p1 ∧ p1 ≤ hi) (h2 : lo ≤ p2 ∧ p2 ≤ hi) (h3 : lo ≤ p3 ∧ p3 ≤ hi) {k : Nat} (hk : k < 4) : lo ≤ [p0, p1, p2, p3].getD k 0 ∧ [p0, p1, p2, p3].getD k 0 ≤ hi := by
  match k, hk with
  | 0, _ => exact h0
  | 1, _ => exact h1
  | 2, _ => exact h2
  | 3, _ => exact h3
theorem set_get4 {p0 p1 p2 p3 : Int} {k : Nat} (hk : k < 4) : [p0, p1, p2, p3].set k ([p0, p1, p2, p3].getD k 0) = [p0, p1, p2, p3] := by
  match k, hk with
  | 0, _ => rfl
  | 1, _ => rfl
  | 2, _ => rfl
  | 3, _ => rfl
theorem panR_set {p0 p1 p2 p3 q tab hh sl : Int} {t u : List Int} {op : Bool} {k : Nat} (hk : k < 4) (c : Int) : panR ⟨tab, [p0, p1, p2, p3].set k q, hh, t, u, sl, op⟩ k c = 1000 * q - c := by
  have : ([p0, p1, p2, p3].set k q).getD k 0 = q := by simp [List.getD_eq_getElem?_getD, hk]
  unfold panR; simp only; rw [this]
theorem panR_blk {v : Value} {b : Bl} {w : World} (hB : Blk w v b) (k : Nat) (ki cal : Int) (hki : ki = (k : Int)) (hk : k < b.panels.length) (hx1 : -100000 ≤ b.panels.getD k 0) (hx2 : b.panels.getD k 0 ≤ 100000) (hy1 : -100000000 ≤ cal) (hy2 : cal ≤ 100000000) :
    Calls Tryz.prog 56 #[v, .int .i64 ki, .int .i64 cal] w (fun e w' => e = .returned (.int .i64 (panR b k cal)) ∧ Below w.heap.size w w') := by
  obtain ⟨a1, n1, c1, a2, n2, c2, a3, n3, c3, rfl, h1, h2, h3⟩ := hB
  obtain rfl := h1.1; obtain rfl := h2.1; obtain rfl := h3.1
  exact panR_any a1 a2 a3 c1 c2 c3 b k ki _ cal w h1 h2 h3 hki hk rfl hx1 hx2 hy1 hy2
theorem heightR_blk {v : Value} {b : Bl} {w : World} (hB : Blk w v b) (cal : Int) (hx1 : -100000 ≤ b.height) (hx2 : b.height ≤ 100000) (hy1 : -100000000 ≤ cal) (hy2 : cal ≤ 100000000) :
    Calls Tryz.prog 57 #[v, .int .i64 cal] w (fun e w' => e = .returned (.int .i64 (heightR b cal)) ∧ Below w.heap.size w w') := by
  obtain ⟨a1, n1, c1, a2, n2, c2, a3, n3, c3, rfl, h1, h2, h3⟩ := hB
  obtain rfl := h1.1; obtain rfl := h2.1; obtain rfl := h3.1
  exact heightR_any a1 a2 a3 c1 c2 c3 b cal w h1 h2 h3 hx1 hx2 hy1 hy2
theorem gapR_blk {v : Value} {b : Bl} {w : World} (hB : Blk w v b) (top outer : Bool) (cal : Int) (hck : checkErr b = 0) (gc : 0 ≤ cal ∧ cal ≤ 100000) :
    Calls Tryz.prog 58 #[v, .bool top, .bool outer, .int .i64 cal] w (fun e w' => e = .returned (.int .i64 (gapR b top outer cal)) ∧ Below w.heap.size w w') := by
  obtain ⟨a1, n1, c1, a2, n2, c2, a3, n3, c3, rfl, h1, h2, h3⟩ := hB
  obtain rfl := h1.1; obtain rfl := h2.1; obtain rfl := h3.1
  exact gapR_any a1 a2 a3 c1 c2 c3 b top outer cal w h1 h2 h3 hck gc
theorem set_at {p0 p1 p2 p3 q : Int} {k : Nat} (hk : k < 4) : ([p0, p1, p2, p3].set k q).getD k 0 = q := by simp [List.getD_eq_getElem?_getD, hk]
theorem Ii.otherI {W W' : World} {a : Option Addr} {n c b : Nat} {xs : List Int} (h : Ii W a n c xs) (hot : ∀ k x, k ≠ b → W.heap[k]? = some x → W'.heap[k]? = some x) (hne : ∀ g o, a = some ⟨g, o, none⟩ → xs ≠ [] → g ≠ b) (hz : W.heap.size ≤ W'.heap.size) : Ii W' a n c xs := by
  by_cases hx : xs = []
  · subst hx
    exact ⟨h.1, h.2.1, h.2.2.1, h.2.2.2.1, .inl rfl⟩
  · obtain ⟨g, o, e, hl, -⟩ := h.at (List.length_pos_iff.2 hx)
    subst e
    exact h.other hot hl (hne g o rfl hx) hz
/-- A number of a span that lies in a row. -/
theorem rd_cell {W : World} {a : Option Addr} {b o n c : Nat} {L U : Int} (h : Ii W a n c (rangeL L U)) (ha : a = some ⟨b, o, none⟩) {i : Nat} (hi : i < (rangeL L U).length) : W.cell? ⟨b, o + i, none⟩ = some (.int .i64 (L + (i : Int))) := by
  subst ha
  obtain ⟨b', o', e, -, hc⟩ := h.at (by omega)
  cases e
  rw [hc i hi, rangeL_get hi]
/-- A valid blank, written out. -/
theorem check_lit {tab p0 p1 p2 p3 hh t0 t1 u0 u1 sl : Int} {op : Bool} (gt : 0 ≤ tab ∧ tab ≤ 100) (gs : 0 ≤ sl ∧ sl ≤ 20) (gh : 1 ≤ hh ∧ hh ≤ 3000) (g0 : 1 ≤ p0 ∧ p0 ≤ 3000) (g1 : 1 ≤ p1 ∧ p1 ≤ 3000) (g2 : 1 ≤ p2 ∧ p2 ≤ 3000) (g3 : 1 ≤ p3 ∧ p3 ≤ 3000)
    (k0 : 0 ≤ t0 ∧ t0 ≤ 3000) (k1 : 0 ≤ t1 ∧ t1 ≤ 3000) (m0 : 0 ≤ u0 ∧ u0 ≤ 3000) (m1 : 0 ≤ u1 ∧ u1 ≤ 3000) (ho : op = true → t0 = 0 ∧ t1 = 0) : checkErr ⟨tab, [p0, p1, p2, p3], hh, [t0, t1], [u0, u1], sl, op⟩ = 0 := by
  have e1 : lensOk ⟨tab, [p0, p1, p2, p3], hh, [t0, t1], [u0, u1], sl, op⟩ = true := rfl
  have e2 : numsOk ⟨tab, [p0, p1, p2, p3], hh, [t0, t1], [u0, u1], sl, op⟩ = true := by
    simp only [numsOk, areLong, within, List.any_cons, List.any_nil, List.cons_append, List.nil_append, Bool.and_eq_true, Bool.not_eq_true', Bool.or_eq_false_iff, decide_eq_false_iff_not]
    refine ⟨⟨?_, trivial⟩, ⟨?_, ?_, ?_, ?_, trivial⟩, ⟨?_, trivial⟩, ⟨?_, ?_, ?_, ?_, trivial⟩, ?_, trivial⟩ <;> omega
  unfold checkErr
  rw [e1, e2]
  simp only [Bool.true_eq_false, if_false]
  cases op with
  | false => rfl
  | true =>
    obtain ⟨rfl, rfl⟩ := ho rfl
    rfl
end Go.Proofs.YthnediamopehfaaGreat
namespace Go.Proofs.YthnediamopehfaaGreat
open Go.RowKit
/-- A row that was made, or nil. -/
def OvP (xs : List Int) (w : World) (e : Ending) (w' : World) : Prop := ∃ v, e = .returned v ∧ (∃ a c, v = .slice a xs.length c ∧ OwnV 3 1 w.heap.size (iis xs) xs.length a c w') ∧ Below w.heap.size w w'
set_option maxRecDepth 100000 in
set_option maxHeartbeats 2000000 in
theorem aroundR_ov (n off least : Int) (w : World) (g0 : 0 ≤ n) (g1 : n ≤ 3000) (g2 : 0 ≤ off) (g3 : off ≤ 100) (hl0 : 0 ≤ least) (hl : least ≤ 3000) :
  Calls Tryz.prog 55 #[.int .i64 n, .int .i64 off, .int .i64 least] w (OvP (aroundL n off least) w) := by
 refine calls_fr Tryz.func55 Tryz.ntmps55 rfl rfl fun g hg => ?_
 have k0 : g 0 = .int .i64 n := hg 0
 have k1 : g 1 = .int .i64 off := hg 1
 have k2 : g 2 = .int .i64 least := hg 2
 clear hg
 have fB0 : Below w.heap.size w w := Below.refl _ _
 refine wp_seq_k fun K1 hK1 => ?_
 refine region_dk 1 [(6, 0)] [[]] (rel [is (.slice (none) (0) (0))])
  ⟨is_k, trivial⟩
  ⟨fun f s W d h i j l b => opv rfl rfl (by simp [go_sem]) rfl, trivial⟩ ?_
 intro f1 s1 W1 hB1 g1 hg1
 have fB1 := hB1.f fB0
 have z1 := hB1.below.size
 refine hK1 _ _ ?_
 have k1_0 := kt hg1 0 k0
 have k1_1 := kt hg1 1 k1
 have k1_2 := kt hg1 2 k2
 have k1_6 := kt hg1 6 (hB1.is 0)
 refine wp_seq_k fun K2 hK2 => ?_
 refine region_dk 2 [(9, 0), (7, 1)] [[], [0]] (rel [row 0 0 #[] 3,
   isS fun s => .slice (some ⟨(s 0), 0, none⟩) (0) (0)])
  ⟨row_k, isS_k fun s s' e => by rw [e 0 (by simp)], trivial⟩
  ⟨fun f s W d h i j l b => opr rfl rfl (by simp [go_sem]),
  fun f s W d h i j l b => opv rfl rfl (by simp [go_sem, b.e 9 (h 0 rfl).1, upd]) rfl, trivial⟩ ?_
 intro f2 s2 W2 hB2 g2 hg2
 have fB2 := hB2.f fB1
 have z2 := hB2.below.size
 obtain ⟨r2_0, br2_0⟩ := hB2.is 0
 have lr2_0 := hB2.lr 0 br2_0
 refine hK2 _ _ ?_
 have k2_0 := kt hg2 0 k1_0
 have k2_1 := kt hg2 1 k1_1
 have k2_2 := kt hg2 2 k1_2
 have k2_6 := kt hg2 6 k1_6
 have k2_7 := kt hg2 7 (hB2.is 1)
 have ow0 : OwnV 3 1 w.heap.size (iis (rangeL (max least (n - off)) (min 3000 ((n - off) - 1)))) (rangeL (max least (n - off)) (min 3000 ((n - off) - 1))).length (some ⟨(s2 0), 0, none⟩) 0 W2 := by rw [rangeL_nil (by omega)]; exact ownV_block (T := 3) (z := 1) (B := w.heap.size) br2_0 (by have := fB1.size; omega)
 refine wp_seq_k fun K3 hK3 => ?_
 refine wp_seq_k fun K4 hK4 => ?_
 refine region_dk 4 [(10, 0), (11, 1), (12, 2), (8, 3)] [[], [], [0, 1], [0, 1, 2]] (rel [is (.int .i64 n),
   is (.int .i64 off),
   is (.int .i64 (n - off)),
   is (.int .i64 (n - off))])
  ⟨is_k, is_k, is_k, is_k, trivial⟩
  ⟨fun f s W d h i j l b => opv rfl rfl (by simp [go_sem, b.e 0 k2_0]) rfl,
  fun f s W d h i j l b => opv rfl rfl (by simp [go_sem, b.e 1 k2_1]) rfl,
  fun f s W d h i j l b => opv rfl rfl (by simp [go_sem, b.e 10 (h 0 rfl), b.e 11 (h 1 rfl), IntWalk.i64_in (n - off) (by omega)]) rfl,
  fun f s W d h i j l b => opv rfl rfl (by simp [go_sem, b.e 12 (h 2 rfl)]) rfl, trivial⟩ ?_
 intro f3 s3 W3 hB3 g3 hg3
 have fB3 := hB3.f fB2
 have z3 := hB3.below.size
 have q1' := (ow0.below hB3.below)
 refine hK4 _ _ ?_
 have k3_0 := kt hg3 0 k2_0
 have k3_1 := kt hg3 1 k2_1
 have k3_2 := kt hg3 2 k2_2
 have k3_6 := kt hg3 6 k2_6
 have k3_7 := kt hg3 7 k2_7
 have k3_8 := kt hg3 8 (hB3.is 3)
 refine wp_block ?_
 refine wp_loop_n (fun m_ a_ W_ => ∃ g_ : Nat → Value, a_ = fr 28 g_ ∧ (∃ x : Int, ∃ a : Option Addr, ∃ cc : Nat, m_ = (n + off + 1 - x).toNat ∧ g_ 0 = .int .i64 n ∧ g_ 1 = .int .i64 off ∧ g_ 2 = .int .i64 least ∧ g_ 6 = .slice (none) (0) (0) ∧ g_ 8 = .int .i64 x ∧ g_ 7 = .slice (a) ((rangeL (max least (n - off)) (min 3000 (x - 1))).length) (cc) ∧ Below w.heap.size w W_ ∧ W3.heap.size ≤ W_.heap.size ∧ OwnV 3 1 w.heap.size (iis (rangeL (max least (n - off)) (min 3000 (x - 1)))) ((rangeL (max least (n - off)) (min 3000 (x - 1))).length) a cc W_ ∧ (n - off ≤ x) ∧ (x ≤ n + off + 1))) ⟨_, g3, rfl, n - off, _, _, rfl, k3_0, k3_1, k3_2, k3_6, k3_8.trans (by rfl), k3_7.trans (by rw [rangeL_nil (by omega)]; rfl), fB3, Nat.le_refl _, q1', (by omega), (by omega)⟩ ?_
 rintro _ _ W_2 ⟨g_2, rfl, x, a, cc, rfl, k_2_0, k_2_1, k_2_2, k_2_6, k_2_8, k_2_7, fB_2, z_2, q3', lp0, lp1⟩
 refine wp_seq_k fun K5 hK5 => ?_
 refine wp_seq_k fun K6 hK6 => ?_
 refine region_dk 5 [(13, 0), (14, 1), (15, 2), (16, 3), (17, 4)] [[], [], [], [1, 2], [0, 1, 2, 3]] (rel [is (.int .i64 x),
   is (.int .i64 n),
   is (.int .i64 off),
   is (.int .i64 (n + off)),
   is (.bool (decide (x ≤ (n + off))))])
  ⟨is_k, is_k, is_k, is_k, is_k, trivial⟩
  ⟨fun f s W d h i j l b => opv rfl rfl (by simp [go_sem, b.e 8 k_2_8]) rfl,
  fun f s W d h i j l b => opv rfl rfl (by simp [go_sem, b.e 0 k_2_0]) rfl,
  fun f s W d h i j l b => opv rfl rfl (by simp [go_sem, b.e 1 k_2_1]) rfl,
  fun f s W d h i j l b => opv rfl rfl (by simp [go_sem, b.e 14 (h 1 rfl), b.e 15 (h 2 rfl), IntWalk.i64_in (n + off) (by omega)]) rfl,
  fun f s W d h i j l b => opv rfl rfl (by simp [go_sem, b.e 13 (h 0 rfl), b.e 16 (h 3 rfl)]) rfl, trivial⟩ ?_
 intro f4 s4 W4 hB4 g4 hg4
 have fB4 := hB4.f fB_2
 have z4 := hB4.below.size
 have q4' := (q3'.below hB4.below)
 refine hK6 _ _ ?_
 have k4_0 := kt hg4 0 k_2_0
 have k4_1 := kt hg4 1 k_2_1
 have k4_2 := kt hg4 2 k_2_2
 have k4_6 := kt hg4 6 k_2_6
 have k4_8 := kt hg4 8 k_2_8
 have k4_7 := kt hg4 7 k_2_7
 have k4_17 := kt hg4 17 (hB4.is 4)
 refine wp_cond_split (t := decide (x ≤ (n + off))) ((fr_eval rfl).trans k4_17) (fun hc7 => ?_) (fun hc7 => ?_)
 ·
  have hc7' := hc7; try simp only [ba] at hc7'
  refine wp_skip ?_
  refine hK5 _ _ ?_
  refine wp_seq_k fun K8 hK8 => ?_
  refine wp_block ?_
  refine wp_seq_k fun K9 hK9 => ?_
  refine region_dk 3 [(20, 0), (21, 1), (22, 2)] [[], [], [0, 1]] (rel [is (.int .i64 x),
   is (.int .i64 least),
   is (.bool (inB (x) (least) (3000)))])
   ⟨is_k, is_k, is_k, trivial⟩
   ⟨fun f s W d h i j l b => opv rfl rfl (by simp [go_sem, b.e 8 k4_8]) rfl,
  fun f s W d h i j l b => opv rfl rfl (by simp [go_sem, b.e 2 k4_2]) rfl,
  fun f s W d h i j l b => opc rfl rfl (by simp [go_sem, b.e 20 (h 0 rfl), b.e 21 (h 1 rfl)]) (in_any (x) (least) (3000) W), trivial⟩ ?_
  intro f5 s5 W5 hB5 g5 hg5
  have fB5 := hB5.f fB4
  have z5 := hB5.below.size
  have q5' := (q4'.below hB5.below)
  refine hK9 _ _ ?_
  have k5_0 := kt hg5 0 k4_0
  have k5_1 := kt hg5 1 k4_1
  have k5_2 := kt hg5 2 k4_2
  have k5_6 := kt hg5 6 k4_6
  have k5_8 := kt hg5 8 k4_8
  have k5_7 := kt hg5 7 k4_7
  have k5_22 := kt hg5 22 (hB5.is 2)
  refine wp_cond_split (t := inB (x) (least) (3000)) ((fr_eval rfl).trans k5_22) (fun hc10 => ?_) (fun hc10 => ?_)
  ·
   have hc10' := hc10; try simp only [ba] at hc10'
   refine region_dk 3 [(23, 0), (24, 1), (25, 2), (26, 3), (7, 4)] [[], [], [1], [0, 1, 2], [0, 1, 2, 3]] (rel [is (.slice (a) ((rangeL (max least (n - off)) (min 3000 (x - 1))).length) (cc)),
   is (.int .i64 x),
   row 2 1 #[.int .i64 x] 3])
    ⟨is_k, is_k, row_k, trivial⟩
    ⟨fun f s W d h i j l b => opv rfl rfl (by simp [go_sem, b.e 7 ((j 4 7 rfl rfl).trans k5_7)]) rfl,
  fun f s W d h i j l b => opv rfl rfl (by simp [go_sem, b.e 8 k5_8]) rfl,
  fun f s W d h i j l b => opr rfl rfl (by simp [go_sem, b.e 24 (h 1 rfl)]), trivial⟩ ?_
   intro f6 s6 W6 hB6 g6 hg6
   have fB6 := hB6.f fB5
   have z6 := hB6.below.size
   have q6' := (q5'.below hB6.below)
   obtain ⟨r6_2, br6_2⟩ := hB6.is 2
   have lr6_2 := hB6.lr 2 br6_2
   have k6_0 := kt hg6 0 k5_0
   have k6_1 := kt hg6 1 k5_1
   have k6_2 := kt hg6 2 k5_2
   have k6_6 := kt hg6 6 k5_6
   have k6_8 := kt hg6 8 k5_8
   have k6_23 := kt hg6 23 (hB6.is 0)
   have k6_25 := kt hg6 25 r6_2
   obtain ⟨ga7, ca7, W7, ra7, ow7, ot7, z7, fB7⟩ := growV_tail 22 22 3 1 8 (.int .i64 0) Tryz.underlying22 (by kernel_rfl) rfl (c := cc) (iis (rangeL (max least (n - off)) (min 3000 (x + 1 - 1)))) ((rangeL (max least (n - off)) (min 3000 (x + 1 - 1))).length) (k := 1) (c' := 1) [.int .i64 x] fB6 q6' (by rw [iis_snoc, around_hit lp0 hc10]) (by rw [← around_hit lp0 hc10]; simp) (Nat.le_refl _) rfl rfl (cells_at br6_2) (by rw [rangeL_len]; omega)
   refine tail_value2 (o := _) rfl rfl rfl (run_appendOp (fr_ev k6_23) (fr_ev k6_25) ra7) ?_
   generalize hg7 : upd g6 26 (.slice (some ⟨ga7, 0, none⟩) ((rangeL (max least (n - off)) (min 3000 (x + 1 - 1))).length) (ca7)) = g7
   have k7_0 := ku hg7 0 k6_0
   have k7_1 := ku hg7 1 k6_1
   have k7_2 := ku hg7 2 k6_2
   have k7_6 := ku hg7 6 k6_6
   have k7_8 := ku hg7 8 k6_8
   have k7_26 := kt hg7 26 (upd_same _ _ _)
   refine tail_value (o := _) rfl rfl rfl (v := .slice (some ⟨ga7, 0, none⟩) ((rangeL (max least (n - off)) (min 3000 (x + 1 - 1))).length) (ca7)) (by simp [go_sem, frv 28 k7_26]) ?_
   generalize hg8 : upd g7 7 (.slice (some ⟨ga7, 0, none⟩) ((rangeL (max least (n - off)) (min 3000 (x + 1 - 1))).length) (ca7)) = g8
   have k8_0 := ku hg8 0 k7_0
   have k8_1 := ku hg8 1 k7_1
   have k8_2 := ku hg8 2 k7_2
   have k8_6 := ku hg8 6 k7_6
   have k8_8 := ku hg8 8 k7_8
   have k8_7 := kt hg8 7 (upd_same _ _ _)
   refine wpOps_end ?_
   refine inBlock_normal ?_
   refine hK8 _ _ ?_
   refine region_dk 3 [(18, 0), (19, 1), (8, 2)] [[], [0], [0, 1]] (rel [is (.int .i64 x),
   is (.int .i64 (x + 1)),
   is (.int .i64 (x + 1))])
    ⟨is_k, is_k, is_k, trivial⟩
    ⟨fun f s W d h i j l b => opv rfl rfl (by simp [go_sem, b.e 8 ((j 2 8 rfl rfl).trans k8_8)]) rfl,
  fun f s W d h i j l b => opv rfl rfl (by simp [go_sem, b.e 18 (h 0 rfl), IntWalk.i64_in (x + 1) (by omega)]) rfl,
  fun f s W d h i j l b => opv rfl rfl (by simp [go_sem, b.e 19 (h 1 rfl)]) rfl, trivial⟩ ?_
   intro f9 s9 W9 hB9 g9 hg9
   have fB9 := hB9.f fB7
   have z9 := hB9.below.size
   have q7' := (ow7.below hB9.below)
   refine wpOps_end ?_
   have k9_0 := kt hg9 0 k8_0
   have k9_1 := kt hg9 1 k8_1
   have k9_2 := kt hg9 2 k8_2
   have k9_6 := kt hg9 6 k8_6
   have k9_7 := kt hg9 7 k8_7
   have k9_8 := kt hg9 8 (hB9.is 2)
   refine then_normal ?_
   exact ⟨_, by omega, g9, rfl, x + 1, some ⟨ga7, 0, none⟩, ca7, rfl, k9_0, k9_1, k9_2, k9_6, k9_8.trans (by go_num), k9_7.trans (by go_num), fB9, (by omega), q7', (by omega), (by omega)⟩
  ·
   have hc10' := hc10; try simp only [ba] at hc10'
   refine wp_skip ?_
   refine inBlock_normal ?_
   refine hK8 _ _ ?_
   refine region_dk 3 [(18, 0), (19, 1), (8, 2)] [[], [0], [0, 1]] (rel [is (.int .i64 x),
   is (.int .i64 (x + 1)),
   is (.int .i64 (x + 1))])
    ⟨is_k, is_k, is_k, trivial⟩
    ⟨fun f s W d h i j l b => opv rfl rfl (by simp [go_sem, b.e 8 ((j 2 8 rfl rfl).trans k5_8)]) rfl,
  fun f s W d h i j l b => opv rfl rfl (by simp [go_sem, b.e 18 (h 0 rfl), IntWalk.i64_in (x + 1) (by omega)]) rfl,
  fun f s W d h i j l b => opv rfl rfl (by simp [go_sem, b.e 19 (h 1 rfl)]) rfl, trivial⟩ ?_
   intro f10 s10 W10 hB10 g10 hg10
   have fB10 := hB10.f fB5
   have z10 := hB10.below.size
   have q8' := (q5'.below hB10.below)
   refine wpOps_end ?_
   have k10_0 := kt hg10 0 k5_0
   have k10_1 := kt hg10 1 k5_1
   have k10_2 := kt hg10 2 k5_2
   have k10_6 := kt hg10 6 k5_6
   have k10_7 := kt hg10 7 k5_7
   have k10_8 := kt hg10 8 (hB10.is 2)
   refine then_normal ?_
   exact ⟨_, by omega, g10, rfl, x + 1, a, cc, rfl, k10_0, k10_1, k10_2, k10_6, k10_8.trans (by go_num), (by rw [← around_miss lp0 hl hc10]; exact k10_7), fB10, (by omega), (by rw [← around_miss lp0 hl hc10]; exact q8'), (by omega), (by omega)⟩
 ·
  have hc7' := hc7; try simp only [ba] at hc7'
  refine wp_exit ?_
  refine then_exit ?_
  refine then_exit ?_
  refine inBlock_at ?_
  refine hK3 _ _ ?_
  refine wp_seq_k fun K11 hK11 => ?_
  refine region_dk 2 [(27, 0), (6, 1)] [[], [0]] (rel [is (.slice (a) ((rangeL (max least (n - off)) (min 3000 (x - 1))).length) (cc)),
   is (.slice (a) ((rangeL (max least (n - off)) (min 3000 (x - 1))).length) (cc))])
   ⟨is_k, is_k, trivial⟩
   ⟨fun f s W d h i j l b => opv rfl rfl (by simp [go_sem, b.e 7 k4_7]) rfl,
  fun f s W d h i j l b => opv rfl rfl (by simp [go_sem, b.e 27 (h 0 rfl)]) rfl, trivial⟩ ?_
  intro f11 s11 W11 hB11 g11 hg11
  have fB11 := hB11.f fB4
  have z11 := hB11.below.size
  have q9' := (q4'.below hB11.below)
  refine hK11 _ _ ?_
  have k11_6 := kt hg11 6 (hB11.is 1)
  refine wp_ret ?_
  refine leave_one (N := 28) (v := .slice (a) ((rangeL (max least (n - off)) (min 3000 (x - 1))).length) (cc)) (.inr rfl) Tryz.results55 rfl k11_6 ?_
  have hx : x = n + off + 1 := by omega
  subst hx
  have hA : rangeL (max least (n - off)) (min 3000 (n + off + 1 - 1)) = aroundL n off least := by rw [aroundL, show n + off + 1 - 1 = n + off from by omega]
  rw [hA] at q9'
  exact ⟨_, by rw [hA], ⟨_, _, rfl, q9'⟩, fB11⟩
theorem aroundR_any (n off least : Int) (w : World) (g0 : 0 ≤ n) (g1 : n ≤ 3000) (g2 : 0 ≤ off) (g3 : off ≤ 100) (hl0 : 0 ≤ least) (hl : least ≤ 3000) : Calls Tryz.prog 55 #[.int .i64 n, .int .i64 off, .int .i64 least] w (NwAP (aroundL n off least) w) := by
  refine (aroundR_ov n off least w g0 g1 g2 g3 hl0 hl).mono fun e w' h => ?_
  obtain ⟨v, e1, ⟨a, c, e2, h1⟩, h2⟩ := h
  exact ⟨v, e1, ⟨a, c, e2, h1.ii, h1.lims⟩, h2⟩
end Go.Proofs.YthnediamopehfaaGreat
