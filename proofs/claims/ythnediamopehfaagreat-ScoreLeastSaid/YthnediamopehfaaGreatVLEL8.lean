/- Part of the proof: what the claim leans on. -/
import Derived.Test.YthnediamopehfaaGreatVLES7
set_option maxHeartbeats 8000000
set_option maxRecDepth 100000
set_option linter.unusedSimpArgs false
set_option linter.unusedVariables false
namespace Go.Proofs.YthnediamopehfaaGreat
open Go.RowKit
theorem two_at {W : World} {b off : Nat} {x y : Int} (hc : ∀ i, i < [x, y].length → W.cell? ⟨b, off + i, none⟩ = some (.int .i64 ([x, y].getD i 0))) : ∀ j u, [Value.int .i64 x, Value.int .i64 y][j]? = some u → W.cell? ⟨b, off + j, none⟩ = some u := by
  intro j u hj
  match j, hj with
  | 0, hj => rw [hc 0 (by simp)]; exact hj
  | 1, hj => rw [hc 1 (by simp)]; exact hj
theorem two_block {W : World} {b : Nat} {x y : Int} {T : TypeId} {p : Nat × Nat} (h : W.heap[b]? = some (.cells #[.int .i64 x, .int .i64 y] T p)) : ∀ j u, [Value.int .i64 x, Value.int .i64 y][j]? = some u → W.cell? ⟨b, 0 + j, none⟩ = some u := by
  intro j u hj
  rw [Nat.zero_add, Joins.cell_of_block h j, ← hj]
  simp
theorem cat_of {B k : Nat} {L xs : List Int} {v : Value} {s : Nat → Nat} {W W' : World} (h : OwI W.heap.size xs k v W') (hB : B ≤ W.heap.size) (hx : xs = L.take k) : catR B L k v s W' := by
  obtain ⟨g, c, e, h1, h2, h3⟩ := h
  subst hx
  exact ⟨g, c, e, ⟨Nat.le_trans (Nat.le_trans hB h1) (Nat.le_of_lt h2), fun y e => by cases e; exact ⟨Nat.le_trans hB h1, h2⟩, ownsRow_low h3 hB⟩⟩
theorem ints_own4 (a3 : Option Addr) (c3 : Nat) (u0 u1 u2 u3 : Int) (w : World) (h3 : Ii w a3 4 c3 [u0, u1, u2, u3]) :
  Calls Tryz.prog 72 #[.slice a3 4 c3] w (OwIP [u0, u1, u2, u3] 4 w) := by
 refine calls_fr Tryz.func72 Tryz.ntmps72 rfl rfl fun g hg => ?_
 have k0 : g 0 = .slice a3 4 c3 := hg 0
 clear hg
 have fB0 : Below w.heap.size w w := Below.refl _ _
 refine rw_ 1 [(2, 0)] [[]] (rel [is (.slice none 0 0)])
  ⟨fun f s W b c d i j a => opv rfl rfl (by simp [go_sem]) rfl, trivial⟩ ?_
 intro f1 s1 W1 hB1 g1 hg1 z1
 have fB1 := hB1.f fB0
 have k1_0 := kt hg1 0 k0
 refine rx 4 [(3, 0), (4, 1), (5, 2), (2, 3)] [[], [], [0, 1], [2]] (rel [row 0 0 #[] 3, is (.slice a3 4 c3), fun v s W => OwI (s 2) ([u0, u1, u2, u3]) 4 v W, fun v s W => OwI (s 2) ([u0, u1, u2, u3]) 4 v W])
  ⟨row_k, is_k, ⟨fun v k W W' hb h => h.below hb, fun v s s' W e h => by have h' : OwI (s 2) ([u0, u1, u2, u3]) 4 v W := h; show OwI (s' 2) ([u0, u1, u2, u3]) 4 v W; rw [← e 2 (by simp)]; exact h'⟩, ⟨fun v k W W' hb h => h.below hb, fun v s s' W e h => by have h' : OwI (s 2) ([u0, u1, u2, u3]) 4 v W := h; show OwI (s' 2) ([u0, u1, u2, u3]) 4 v W; rw [← e 2 (by simp)]; exact h'⟩, trivial⟩
  ⟨fun f s W b c d i j a => opr rfl rfl (by simp [go_sem]),
  fun f s W b c d i j a => opm (a.v 0 k1_0),
  fun f s W b c d i j a => by have l := bwt fB1 b; obtain ⟨v_, W_, r_, b_, i_⟩ := cloneO_run 22 W (s 0) (a3) (c3) ([u0, u1, u2, u3]) 4 ((h3.below l (Nat.le_refl _))) ((by decide)) ((by decide)) (c 0 rfl).2; exact opDo_value rfl rfl (run_appendOp (a.v 3 (c 0 rfl).1) (a.v 4 (c 1 rfl)) r_) b_ (show OwI (upd s 2 W.heap.size 2) ([u0, u1, u2, u3]) 4 v_ W_ from by rw [upd_at]; exact i_),
  fun f s W b c d i j a => opv (v := (f 2)) rfl rfl (by simp [go_sem, (a.at' 5 rfl : j.tmps[5]?.getD undef = f 2)] <;> rfl) (c 2 rfl), trivial⟩ ?_
 intro f2 s2 W2 hB2 g2 hg2 z2
 have fB2 := hB2.f fB1
 obtain ⟨r2_0, br2_0⟩ := hB2.is 0
 have lr2_0 := hB2.lr 0 br2_0
 obtain ⟨g4', c5', r2_3, q6'⟩ := hB2.is 3
 have la2_3 := hB2.from' 2 (by decide)
 have lo2_3_o := q6'.lim
 have q7' := q6'.low (B' := w.heap.size) (Nat.le_trans fB1.size (la2_3))
 have k2_2 := kt hg2 2 r2_3
 refine wp_ret ?_
 refine leave_one (N := 6) (.inr rfl) Tryz.results72 rfl k2_2 ?_
 exact ⟨_, rfl, ⟨_, _, rfl, q7'⟩, fB2⟩
theorem same_step {X Y : Nat → Int} {i : Nat} (h : ∀ j, j < i → X j = Y j) (hi : (X i != Y i) = false) : ∀ j, j < i + 1 → X j = Y j := fun j hj => by
  by_cases e : j = i
  · subst e; exact bne_eq_false_iff_eq.1 hi
  · exact h j (by omega)
theorem ii_nth {W : World} {aa : Option Addr} {a o n c : Nat} {xs : List Int} (h : Ii W aa n c xs) (ha : aa = some ⟨a, o, none⟩) {i : Nat} (hi : i < xs.length) : W.cell? ⟨a, o + i, none⟩ = some (.int .i64 (xs.getD i 0)) := by
  obtain ⟨b, off, e, -, hc⟩ := h.at (by omega)
  rw [ha] at e
  cases e
  exact hc i hi
theorem compared_any (a1 a2 a3 e1 e2 e3 : Option Addr) (c1 c2 c3 n1 n2 n3 : Nat) (tab p0 p1 p2 p3 hh t0 t1 u0 u1 sl td m0 m1 m2 m3 gh v0 v1 x0 x1 gl cr : Int) (op od : Bool) (X Y : Nat → Int) (w : World) (h1 : Ii w a1 4 c1 [p0, p1, p2, p3]) (h2 : Ii w a2 2 c2 [t0, t1]) (h3 : Ii w a3 2 c3 [u0, u1]) (j1 : Ii w e1 4 n1 [m0, m1, m2, m3]) (j2 : Ii w e2 2 n2 [v0, v1]) (j3 : Ii w e3 2 n3 [x0, x1]) (hX : ∀ i, [p0, p1, p2, p3, t0, t1, u0, u1, hh, sl].getD i 0 = X i) (hY : ∀ i, [m0, m1, m2, m3, v0, v1, x0, x1, gh, gl].getD i 0 = Y i) (gX : ∀ i, -100000 ≤ X i ∧ X i ≤ 100000) (gY : ∀ i, -100000 ≤ Y i ∧ Y i ≤ 100000) (hne : ∀ i, i < 10 → (∀ j, j < i → X j = Y j) → X i ≠ Y i → X i - Y i = cr) (heq : (∀ j, j < 10 → X j = Y j) → (0 : Int) = cr) :
    Calls Tryz.prog 39 #[.agg #[.int .i64 tab, .slice a1 4 c1, .int .i64 hh, .slice a2 2 c2, .slice a3 2 c3, .int .i64 sl, .bool op], .agg #[.int .i64 td, .slice e1 4 n1, .int .i64 gh, .slice e2 2 n2, .slice e3 2 n3, .int .i64 gl, .bool od]] w (fun e w' => e = .returned (.int .i64 cr) ∧ Below w.heap.size w w') := by
  refine calls_fr Tryz.func39 Tryz.ntmps39 rfl rfl fun g hg => ?_
  have k0 : g 0 = .agg #[.int .i64 tab, .slice a1 4 c1, .int .i64 hh, .slice a2 2 c2, .slice a3 2 c3, .int .i64 sl, .bool op] := hg 0
  have k1 : g 1 = .agg #[.int .i64 td, .slice e1 4 n1, .int .i64 gh, .slice e2 2 n2, .slice e3 2 n3, .int .i64 gl, .bool od] := hg 1
  clear hg
  have fB0 : Below w.heap.size w w := Below.refl _ _
  refine rw_ 3 [(2, 0), (3, 1), (4, 2)] [[], [], []] (rel [bx 0 #[.int .i64 tab, .slice a1 4 c1, .int .i64 hh, .slice a2 2 c2, .slice a3 2 c3, .int .i64 sl, .bool op] 24, bx 1 #[.int .i64 td, .slice e1 4 n1, .int .i64 gh, .slice e2 2 n2, .slice e3 2 n3, .int .i64 gl, .bool od] 24, iI 0])
    ⟨fun f s W hW k m n o a => opb rfl rfl (by simp [go_sem, a.e 0 k0]),
    fun f s W hW k m n o a => opb rfl rfl (by simp [go_sem, a.e 1 k1]),
    fun f s W hW k m n o a => opz, trivial⟩ ?_
  intro f1 s1 W1 hB1 g1 hg1 z1
  have fB1 := hB1.f fB0
  obtain ⟨r1_0, br1_0⟩ := hB1.is 0
  have lr1_0 := hB1.lr 0 br1_0
  obtain ⟨r1_1, br1_1⟩ := hB1.is 1
  have lr1_1 := hB1.lr 1 br1_1
  have ne1_0_1 := hB1.nb 0 1
  have k1_2 := kt hg1 2 r1_0
  refine wp_seq_k fun K2 hK2 => ?_
  refine region_doL (LeC (W1.heap.size) [p0, p1, p2, p3, t0, t1, u0, u1, hh, sl]) LeC.refl LeC.drew LeC.trans (fun _ _ h => h.size) 16 [(8, 0), (9, 1), (10, 2), (11, 3), (12, 4), (13, 5), (14, 6), (15, 7), (16, 8), (17, 9), (18, 10), (19, 11), (20, 12), (21, 13), (22, 14), (5, 15)] [[], [0], [0, 1], [], [3], [0, 1, 2, 3, 4], [], [6], [0, 1, 2, 3, 4, 5, 6, 7], [], [9], [], [11], [9, 10, 11, 12], [0, 1, 2, 3, 4, 5, 6, 7, 8, 9, 10, 11, 12, 13], [0, 1, 2, 3, 4, 5, 6, 7, 8, 9, 10, 11, 12, 13, 14]] (rel [is (.pointer (some ⟨(s1 0), 1, none⟩)),
      is (.slice a1 4 c1),
      catR (W1.heap.size) [p0, p1, p2, p3, t0, t1, u0, u1, hh, sl] 4,
      is (.pointer (some ⟨(s1 0), 3, none⟩)),
      is (.slice a2 2 c2),
      catR (W1.heap.size) [p0, p1, p2, p3, t0, t1, u0, u1, hh, sl] 6,
      is (.pointer (some ⟨(s1 0), 4, none⟩)),
      is (.slice a3 2 c3),
      catR (W1.heap.size) [p0, p1, p2, p3, t0, t1, u0, u1, hh, sl] 8,
      is (.pointer (some ⟨(s1 0), 2, none⟩)),
      is (.int .i64 hh),
      is (.pointer (some ⟨(s1 0), 5, none⟩)),
      is (.int .i64 sl),
      row 13 2 #[.int .i64 hh, .int .i64 sl] 3,
      catR (W1.heap.size) [p0, p1, p2, p3, t0, t1, u0, u1, hh, sl] 10,
      catR (W1.heap.size) [p0, p1, p2, p3, t0, t1, u0, u1, hh, sl] 10]) (by kernel_rfl) (by kernel_rfl) (by kernel_rfl) (by kernel_rfl)
    ⟨is_kl, is_kl, catR_k, is_kl, is_kl, catR_k, is_kl, is_kl, catR_k, is_kl, is_kl, is_kl, is_kl, rowC_k, catR_k, catR_k, trivial⟩
    ⟨fun f s W hT k m n o a => by have hW := LeC.below hT (Nat.le_refl _); exact OpDo.l LeC.of_below (opv rfl rfl (by simp [go_sem, a.e 2 k1_2]) rfl),
    fun f s W hT k m n o a => by have hW := LeC.below hT (Nat.le_refl _); exact OpDo.l LeC.of_below (opv rfl rfl (by simp [go_sem, a.e 8 (k 0 rfl), cb br1_0 hW 1]) rfl),
    fun f s W hT k m n o a => by have hW := LeC.below hT (Nat.le_refl _); have p := bwt fB1 hW; exact OpDo.l LeC.of_below (opd rfl rfl (by simp [go_sem, a.e 9 (k 1 rfl)]) (ints_own4 a1 c1 p0 p1 p2 p3  W (h1.below p (Nat.le_refl _))) (fun e W' h => by obtain ⟨v, e1, h1, h2⟩ := h; exact ⟨v, e1, h2, cat_of (L := [p0, p1, p2, p3, t0, t1, u0, u1, hh, sl]) (s := upd s 2 W.heap.size) h1 hT.size rfl⟩)),
    fun f s W hT k m n o a => by have hW := LeC.below hT (Nat.le_refl _); exact OpDo.l LeC.of_below (opv rfl rfl (by simp [go_sem, a.e 2 k1_2]) rfl),
    fun f s W hT k m n o a => by have hW := LeC.below hT (Nat.le_refl _); exact OpDo.l LeC.of_below (opv rfl rfl (by simp [go_sem, a.e 11 (k 3 rfl), cb br1_0 hW 3]) rfl),
    fun f s W hT k m n o a => by have hW := LeC.below hT (Nat.le_refl _); have p := bwt fB1 hW; obtain ⟨q1, o1, e1, -, hc1⟩ := (h2.below p (Nat.le_refl _)).at (by simp); obtain ⟨gA, cA, dA, rA⟩ := (k 2 rfl); obtain ⟨gB, cB, WB, hr, hle, hro⟩ := app_two (L := [p0, p1, p2, p3, t0, t1, u0, u1, hh, sl]) 22 (by decide) (by simp) (by simp) rfl rfl rA (two_at hc1); exact opDoL_value rfl rfl (run_appendOp (a.v 10 dA) (a.v 12 ((k 4 rfl).trans (by rw [e1]))) hr) hle ⟨gB, cB, rfl, hro⟩,
    fun f s W hT k m n o a => by have hW := LeC.below hT (Nat.le_refl _); exact OpDo.l LeC.of_below (opv rfl rfl (by simp [go_sem, a.e 2 k1_2]) rfl),
    fun f s W hT k m n o a => by have hW := LeC.below hT (Nat.le_refl _); exact OpDo.l LeC.of_below (opv rfl rfl (by simp [go_sem, a.e 14 (k 6 rfl), cb br1_0 hW 4]) rfl),
    fun f s W hT k m n o a => by have hW := LeC.below hT (Nat.le_refl _); have p := bwt fB1 hW; obtain ⟨q1, o1, e1, -, hc1⟩ := (h3.below p (Nat.le_refl _)).at (by simp); obtain ⟨gA, cA, dA, rA⟩ := (k 5 rfl); obtain ⟨gB, cB, WB, hr, hle, hro⟩ := app_two (L := [p0, p1, p2, p3, t0, t1, u0, u1, hh, sl]) 22 (by decide) (by simp) (by simp) rfl rfl rA (two_at hc1); exact opDoL_value rfl rfl (run_appendOp (a.v 13 dA) (a.v 15 ((k 7 rfl).trans (by rw [e1]))) hr) hle ⟨gB, cB, rfl, hro⟩,
    fun f s W hT k m n o a => by have hW := LeC.below hT (Nat.le_refl _); exact OpDo.l LeC.of_below (opv rfl rfl (by simp [go_sem, a.e 2 k1_2]) rfl),
    fun f s W hT k m n o a => by have hW := LeC.below hT (Nat.le_refl _); exact OpDo.l LeC.of_below (opv rfl rfl (by simp [go_sem, a.e 17 (k 9 rfl), cb br1_0 hW 2]) rfl),
    fun f s W hT k m n o a => by have hW := LeC.below hT (Nat.le_refl _); exact OpDo.l LeC.of_below (opv rfl rfl (by simp [go_sem, a.e 2 k1_2]) rfl),
    fun f s W hT k m n o a => by have hW := LeC.below hT (Nat.le_refl _); exact OpDo.l LeC.of_below (opv rfl rfl (by simp [go_sem, a.e 19 (k 11 rfl), cb br1_0 hW 5]) rfl),
    fun f s W hT k m n o a => by have hW := LeC.below hT (Nat.le_refl _); exact OpDo.l LeC.of_below (opr rfl rfl (by simp [go_sem, a.e 18 (k 10 rfl), a.e 20 (k 12 rfl)])),
    fun f s W hT k m n o a => by have hW := LeC.below hT (Nat.le_refl _); have p := bwt fB1 hW; obtain ⟨gA, cA, dA, rA⟩ := (k 8 rfl); obtain ⟨gB, cB, WB, hr, hle, hro⟩ := app_two (L := [p0, p1, p2, p3, t0, t1, u0, u1, hh, sl]) 22 (by decide) (by simp) (by simp) rfl rfl rA (two_block (k 13 rfl).2); exact opDoL_value rfl rfl (run_appendOp (a.v 16 dA) (a.v 21 (k 13 rfl).1) hr) hle ⟨gB, cB, rfl, hro⟩,
    fun f s W hT k m n o a => by have hW := LeC.below hT (Nat.le_refl _); have p := bwt fB1 hW; exact OpDo.l LeC.of_below (opv (v := (f 14)) rfl rfl (by simp [go_sem, (a.at' 22 rfl : o.tmps[22]?.getD undef = f 14)] <;> rfl) (k 14 rfl)), trivial⟩ ?_
  intro f2 s2 W2 hB2
  have hb2 := LeC.below hB2.le (Nat.le_refl _)
  have fB2 := bwt fB1 hb2
  have z2 : W1.heap.size ≤ W2.heap.size := hb2.size
  have b2_0 := bwb br1_0 hb2
  have b2_1 := bwb br1_1 hb2
  obtain ⟨g8', c9', r2_15, q10'⟩ := hB2.is 15
  have q11' : Ii W2 (some ⟨g8', 0, none⟩) 10 c9' [p0, p1, p2, p3, t0, t1, u0, u1, hh, sl] := OwnV.ii q10'
  generalize hg2 : ov [(8, 0), (9, 1), (10, 2), (11, 3), (12, 4), (13, 5), (14, 6), (15, 7), (16, 8), (17, 9), (18, 10), (19, 11), (20, 12), (21, 13), (22, 14), (5, 15)] f2 g1 = g2
  have k2_3 := kt hg2 3 (kt hg1 3 r1_1)
  refine wpe ?_
  refine hK2 _ _ ?_
  refine wp_seq_k fun K3 hK3 => ?_
  refine region_doL (LeC (W2.heap.size) [m0, m1, m2, m3, v0, v1, x0, x1, gh, gl]) LeC.refl LeC.drew LeC.trans (fun _ _ h => h.size) 16 [(23, 0), (24, 1), (25, 2), (26, 3), (27, 4), (28, 5), (29, 6), (30, 7), (31, 8), (32, 9), (33, 10), (34, 11), (35, 12), (36, 13), (37, 14), (6, 15)] [[], [0], [0, 1], [], [3], [0, 1, 2, 3, 4], [], [6], [0, 1, 2, 3, 4, 5, 6, 7], [], [9], [], [11], [9, 10, 11, 12], [0, 1, 2, 3, 4, 5, 6, 7, 8, 9, 10, 11, 12, 13], [0, 1, 2, 3, 4, 5, 6, 7, 8, 9, 10, 11, 12, 13, 14]] (rel [is (.pointer (some ⟨(s1 1), 1, none⟩)),
      is (.slice e1 4 n1),
      catR (W2.heap.size) [m0, m1, m2, m3, v0, v1, x0, x1, gh, gl] 4,
      is (.pointer (some ⟨(s1 1), 3, none⟩)),
      is (.slice e2 2 n2),
      catR (W2.heap.size) [m0, m1, m2, m3, v0, v1, x0, x1, gh, gl] 6,
      is (.pointer (some ⟨(s1 1), 4, none⟩)),
      is (.slice e3 2 n3),
      catR (W2.heap.size) [m0, m1, m2, m3, v0, v1, x0, x1, gh, gl] 8,
      is (.pointer (some ⟨(s1 1), 2, none⟩)),
      is (.int .i64 gh),
      is (.pointer (some ⟨(s1 1), 5, none⟩)),
      is (.int .i64 gl),
      row 13 2 #[.int .i64 gh, .int .i64 gl] 3,
      catR (W2.heap.size) [m0, m1, m2, m3, v0, v1, x0, x1, gh, gl] 10,
      catR (W2.heap.size) [m0, m1, m2, m3, v0, v1, x0, x1, gh, gl] 10]) (by kernel_rfl) (by kernel_rfl) (by kernel_rfl) (by kernel_rfl)
    ⟨is_kl, is_kl, catR_k, is_kl, is_kl, catR_k, is_kl, is_kl, catR_k, is_kl, is_kl, is_kl, is_kl, rowC_k, catR_k, catR_k, trivial⟩
    ⟨fun f s W hT k m n o a => by have hW := LeC.below hT (Nat.le_refl _); exact OpDo.l LeC.of_below (opv rfl rfl (by simp [go_sem, a.e 3 k2_3]) rfl),
    fun f s W hT k m n o a => by have hW := LeC.below hT (Nat.le_refl _); exact OpDo.l LeC.of_below (opv rfl rfl (by simp [go_sem, a.e 23 (k 0 rfl), cb b2_1 hW 1]) rfl),
    fun f s W hT k m n o a => by have hW := LeC.below hT (Nat.le_refl _); have p := bwt fB2 hW; exact OpDo.l LeC.of_below (opd rfl rfl (by simp [go_sem, a.e 24 (k 1 rfl)]) (ints_own4 e1 n1 m0 m1 m2 m3  W (j1.below p (Nat.le_refl _))) (fun e W' h => by obtain ⟨v, e1, h1, h2⟩ := h; exact ⟨v, e1, h2, cat_of (L := [m0, m1, m2, m3, v0, v1, x0, x1, gh, gl]) (s := upd s 2 W.heap.size) h1 hT.size rfl⟩)),
    fun f s W hT k m n o a => by have hW := LeC.below hT (Nat.le_refl _); exact OpDo.l LeC.of_below (opv rfl rfl (by simp [go_sem, a.e 3 k2_3]) rfl),
    fun f s W hT k m n o a => by have hW := LeC.below hT (Nat.le_refl _); exact OpDo.l LeC.of_below (opv rfl rfl (by simp [go_sem, a.e 26 (k 3 rfl), cb b2_1 hW 3]) rfl),
    fun f s W hT k m n o a => by have hW := LeC.below hT (Nat.le_refl _); have p := bwt fB2 hW; obtain ⟨q1, o1, e1, -, hc1⟩ := (j2.below p (Nat.le_refl _)).at (by simp); obtain ⟨gA, cA, dA, rA⟩ := (k 2 rfl); obtain ⟨gB, cB, WB, hr, hle, hro⟩ := app_two (L := [m0, m1, m2, m3, v0, v1, x0, x1, gh, gl]) 22 (by decide) (by simp) (by simp) rfl rfl rA (two_at hc1); exact opDoL_value rfl rfl (run_appendOp (a.v 25 dA) (a.v 27 ((k 4 rfl).trans (by rw [e1]))) hr) hle ⟨gB, cB, rfl, hro⟩,
    fun f s W hT k m n o a => by have hW := LeC.below hT (Nat.le_refl _); exact OpDo.l LeC.of_below (opv rfl rfl (by simp [go_sem, a.e 3 k2_3]) rfl),
    fun f s W hT k m n o a => by have hW := LeC.below hT (Nat.le_refl _); exact OpDo.l LeC.of_below (opv rfl rfl (by simp [go_sem, a.e 29 (k 6 rfl), cb b2_1 hW 4]) rfl),
    fun f s W hT k m n o a => by have hW := LeC.below hT (Nat.le_refl _); have p := bwt fB2 hW; obtain ⟨q1, o1, e1, -, hc1⟩ := (j3.below p (Nat.le_refl _)).at (by simp); obtain ⟨gA, cA, dA, rA⟩ := (k 5 rfl); obtain ⟨gB, cB, WB, hr, hle, hro⟩ := app_two (L := [m0, m1, m2, m3, v0, v1, x0, x1, gh, gl]) 22 (by decide) (by simp) (by simp) rfl rfl rA (two_at hc1); exact opDoL_value rfl rfl (run_appendOp (a.v 28 dA) (a.v 30 ((k 7 rfl).trans (by rw [e1]))) hr) hle ⟨gB, cB, rfl, hro⟩,
    fun f s W hT k m n o a => by have hW := LeC.below hT (Nat.le_refl _); exact OpDo.l LeC.of_below (opv rfl rfl (by simp [go_sem, a.e 3 k2_3]) rfl),
    fun f s W hT k m n o a => by have hW := LeC.below hT (Nat.le_refl _); exact OpDo.l LeC.of_below (opv rfl rfl (by simp [go_sem, a.e 32 (k 9 rfl), cb b2_1 hW 2]) rfl),
    fun f s W hT k m n o a => by have hW := LeC.below hT (Nat.le_refl _); exact OpDo.l LeC.of_below (opv rfl rfl (by simp [go_sem, a.e 3 k2_3]) rfl),
    fun f s W hT k m n o a => by have hW := LeC.below hT (Nat.le_refl _); exact OpDo.l LeC.of_below (opv rfl rfl (by simp [go_sem, a.e 34 (k 11 rfl), cb b2_1 hW 5]) rfl),
    fun f s W hT k m n o a => by have hW := LeC.below hT (Nat.le_refl _); exact OpDo.l LeC.of_below (opr rfl rfl (by simp [go_sem, a.e 33 (k 10 rfl), a.e 35 (k 12 rfl)])),
    fun f s W hT k m n o a => by have hW := LeC.below hT (Nat.le_refl _); have p := bwt fB2 hW; obtain ⟨gA, cA, dA, rA⟩ := (k 8 rfl); obtain ⟨gB, cB, WB, hr, hle, hro⟩ := app_two (L := [m0, m1, m2, m3, v0, v1, x0, x1, gh, gl]) 22 (by decide) (by simp) (by simp) rfl rfl rA (two_block (k 13 rfl).2); exact opDoL_value rfl rfl (run_appendOp (a.v 31 dA) (a.v 36 (k 13 rfl).1) hr) hle ⟨gB, cB, rfl, hro⟩,
    fun f s W hT k m n o a => by have hW := LeC.below hT (Nat.le_refl _); have p := bwt fB2 hW; exact OpDo.l LeC.of_below (opv (v := (f 14)) rfl rfl (by simp [go_sem, (a.at' 37 rfl : o.tmps[37]?.getD undef = f 14)] <;> rfl) (k 14 rfl)), trivial⟩ ?_
  intro f3 s3 W3 hB3
  have hb3 := LeC.below hB3.le (Nat.le_refl _)
  have fB3 := bwt fB2 hb3
  have z3 : W2.heap.size ≤ W3.heap.size := hb3.size
  have b3_0 := bwb b2_0 hb3
  have b3_1 := bwb b2_1 hb3
  have q12' := q11'.below hb3 (Nat.le_refl _)
  obtain ⟨g13', c14', r3_15, q15'⟩ := hB3.is 15
  have q16' : Ii W3 (some ⟨g13', 0, none⟩) 10 c14' [m0, m1, m2, m3, v0, v1, x0, x1, gh, gl] := OwnV.ii q15'
  generalize hg3 : ov [(23, 0), (24, 1), (25, 2), (26, 3), (27, 4), (28, 5), (29, 6), (30, 7), (31, 8), (32, 9), (33, 10), (34, 11), (35, 12), (36, 13), (37, 14), (6, 15)] f3 g2 = g3
  refine wpe ?_
  refine hK3 _ _ ?_
  refine wp_seq_k fun K4 hK4 => ?_
  refine rw_ 1 [(7, 0)] [[]] (rel [iI 0])
    ⟨fun f s W hW k m n o a => opz, trivial⟩ ?_
  intro f4 s4 W4 hB4 g4 hg4 z4
  have fB4 := hB4.f fB3
  have b4_0 := hB4.b b3_0
  have b4_1 := hB4.b b3_1
  have q17' := q12'.bw hB4
  have q18' := q16'.bw hB4
  have k4_4 := kt hg4 4 (kt hg3 4 (kt hg2 4 (kt hg1 4 (hB1.is 2))))
  have k4_5 := kt hg4 5 (kt hg3 5 (kt hg2 5 r2_15))
  have k4_6 := kt hg4 6 (kt hg3 6 r3_15)
  have k4_7 := kt hg4 7 (hB4.is 0)
  refine wp_block ?_
  refine wp_loop_n (fun m_ a_ W_ => ∃ g_ : Nat → Value, a_ = fr 73 g_ ∧ (∃ i : Nat, m_ = 10 - i ∧ g_ 4 = .int .i64 0 ∧ g_ 5 = .slice (some ⟨g8', 0, none⟩) 10 c9' ∧ g_ 6 = .slice (some ⟨g13', 0, none⟩) 10 c14' ∧ g_ 7 = .int .i64 ((i : Int)) ∧ Below w.heap.size w W_ ∧ W4.heap.size ≤ W_.heap.size ∧ W_.heap[(s1 0)]? = some (.cells #[.int .i64 tab, .slice a1 4 c1, .int .i64 hh, .slice a2 2 c2, .slice a3 2 c3, .int .i64 sl, .bool op] 24 (0, 0)) ∧ W_.heap[(s1 1)]? = some (.cells #[.int .i64 td, .slice e1 4 n1, .int .i64 gh, .slice e2 2 n2, .slice e3 2 n3, .int .i64 gl, .bool od] 24 (0, 0)) ∧ Ii W_ (some ⟨g8', 0, none⟩) 10 c9' [p0, p1, p2, p3, t0, t1, u0, u1, hh, sl] ∧ Ii W_ (some ⟨g13', 0, none⟩) 10 c14' [m0, m1, m2, m3, v0, v1, x0, x1, gh, gl] ∧ (i ≤ 10) ∧ (∀ j, j < i → X j = Y j))) ⟨_, g4, rfl, 0, rfl, k4_4, k4_5, k4_6, k4_7.trans (by rfl), fB4, Nat.le_refl _, b4_0, b4_1, q17', q18', (by omega), (fun j hj => absurd hj (by omega))⟩ ?_
  rintro _ _ W_19 ⟨g_19, rfl, i, rfl, k_19_4, k_19_5, k_19_6, k_19_7, fB_19, z_19, b_19_0, b_19_1, q20', q21', lp0, lp1⟩
  refine wp_seq_k fun K6 hK6 => ?_
  refine rw_ 10 [(38, 0), (39, 1), (40, 2), (41, 3), (42, 4), (43, 5), (44, 6), (45, 7), (46, 8), (47, 9)] [[], [], [1], [0, 2], [3], [4], [4], [4, 6], [4, 5, 7], [4, 8]] (rel [iI ((i : Int)), is (.slice (some ⟨g8', 0, none⟩) 10 c9'), iI 10, iB (decide ((i : Int) < 10)), iB (decide ((i : Int) < 10)), gd (decide ((i : Int) < 10)) true (iI ((i : Int))), gd (decide ((i : Int) < 10)) true (is (.slice (some ⟨g13', 0, none⟩) 10 c14')), gd (decide ((i : Int) < 10)) true (iI 10), gd (decide ((i : Int) < 10)) true (iB (decide ((i : Int) < 10))), iB ((decide ((i : Int) < 10)) && (decide ((i : Int) < 10)))])
    ⟨fun f s W hW k m n o a => opm (a.v 7 k_19_7),
    fun f s W hW k m n o a => opm (a.v 5 k_19_5),
    fun f s W hW k m n o a => opv rfl rfl (by simp [go_sem, a.e 39 (k 1 rfl)]) rfl,
    fun f s W hW k m n o a => opv rfl rfl (by simp [go_sem, a.e 38 (k 0 rfl), a.e 40 (k 2 rfl)]) rfl,
    fun f s W hW k m n o a => opm (a.v 41 (k 3 rfl)),
    fun f s W hW k m n o a => gdo rfl rfl (a.says (d := 42) rfl rfl (k 4 rfl)) fun hgd0 => gv (by simp [go_sem, a.e 7 k_19_7]) rfl,
    fun f s W hW k m n o a => gdo rfl rfl (a.says (d := 42) rfl rfl (k 4 rfl)) fun hgd0 => gv (by simp [go_sem, a.e 6 k_19_6]) rfl,
    fun f s W hW k m n o a => gdo rfl rfl (a.says (d := 42) rfl rfl (k 4 rfl)) fun hgd0 => gv (by simp [go_sem, a.e 44 ((k 6 rfl).1 hgd0)]) rfl,
    fun f s W hW k m n o a => gdo rfl rfl (a.says (d := 42) rfl rfl (k 4 rfl)) fun hgd0 => gv (by simp [go_sem, a.e 43 ((k 5 rfl).1 hgd0), a.e 45 ((k 7 rfl).1 hgd0)]) rfl,
    fun f s W hW k m n o a => opk (c := decide ((i : Int) < 10)) rfl rfl (fun hpk => by first | (simp [go_sem, hpk, a.e 42 (k 4 rfl)]; done) | (have hpk' := hpk; simp at hpk'; simp [go_sem, hpk', hpk, a.e 42 (k 4 rfl)])) (fun hpk => by first | (simp [go_sem, hpk, a.e 42 (k 4 rfl), a.e 46 ((k 8 rfl).1 hpk)]; done) | (have hpk' := hpk; simp at hpk'; simp [go_sem, hpk', hpk, a.e 42 (k 4 rfl), a.e 46 ((k 8 rfl).1 hpk)])), trivial⟩ ?_
  intro f5 s5 W5 hB5 g5 hg5 z5
  have fB5 := hB5.f fB_19
  have q22' := q20'.bw hB5
  have q23' := q21'.bw hB5
  have k5_5 := kt hg5 5 k_19_5
  have k5_6 := kt hg5 6 k_19_6
  have k5_7 := kt hg5 7 k_19_7
  have k5_47 := kt hg5 47 (hB5.is 9)
  refine wp_cond_split (t := (decide ((i : Int) < 10)) && (decide ((i : Int) < 10))) ((fr_eval rfl).trans k5_47) (fun hc8 => ?_) (fun hc8 => ?_)
  ·
    have hc8' := hc8; try simp only [ba] at hc8'
    have hi10n : i < 10 := by
      rcases Nat.lt_or_ge i 10 with h5 | h5
      · exact h5
      · rw [decide_eq_false (show ¬ ((i : Int) < 10) by omega)] at hc8; cases hc8
    have hi10i : (i : Int) < 10 := by omega
    have gx_ := gX i
    have gy_ := gY i
    obtain ⟨bX, oX, haX, -⟩ := q22'.at (by simp)
    obtain ⟨bY, oY, haY, -⟩ := q23'.at (by simp)
    refine wp_skip ?_
    refine hK6 _ _ ?_
    refine wp_seq_k fun K9 hK9 => ?_
    refine wp_block ?_
    refine rw_ 9 [(50, 0), (51, 1), (52, 2), (53, 3), (54, 4), (55, 5), (56, 6), (57, 7), (58, 8)] [[], [], [0, 1], [2], [], [], [4, 5], [6], [3, 7]] (rel [is (.slice (some ⟨g8', 0, none⟩) 10 c9'), iI ((i : Int)), is (.pointer (some ⟨bX, oX + i, none⟩)), iI ((X i)), is (.slice (some ⟨g13', 0, none⟩) 10 c14'), iI ((i : Int)), is (.pointer (some ⟨bY, oY + i, none⟩)), iI ((Y i)), iB ((X i) != (Y i))])
      ⟨fun f s W hW k m n o a => opm (a.v 5 k5_5),
    fun f s W hW k m n o a => opm (a.v 7 k5_7),
    fun f s W hW k m n o a => opv rfl rfl (by simp [go_sem, a.e 50 (k 0 rfl), a.e 51 (k 1 rfl), haX, hi10n, hi10i]) rfl,
    fun f s W hW k m n o a => by have cu := (ii_nth (q22'.below hW (Nat.le_refl _)) haX (by simp; omega)).trans (by rw [hX i]); exact opv rfl rfl (by simp [go_sem, a.e 52 (k 2 rfl), cu]) rfl,
    fun f s W hW k m n o a => opm (a.v 6 k5_6),
    fun f s W hW k m n o a => opm (a.v 7 k5_7),
    fun f s W hW k m n o a => opv rfl rfl (by simp [go_sem, a.e 54 (k 4 rfl), a.e 55 (k 5 rfl), haY, hi10n, hi10i]) rfl,
    fun f s W hW k m n o a => by have cu := (ii_nth (q23'.below hW (Nat.le_refl _)) haY (by simp; omega)).trans (by rw [hY i]); exact opv rfl rfl (by simp [go_sem, a.e 56 (k 6 rfl), cu]) rfl,
    fun f s W hW k m n o a => opv rfl rfl (by simp [go_sem, a.e 53 (k 3 rfl), a.e 57 (k 7 rfl)]) rfl, trivial⟩ ?_
    intro f6 s6 W6 hB6 g6 hg6 z6
    have fB6 := hB6.f fB5
    have q24' := q22'.bw hB6
    have q25' := q23'.bw hB6
    have k6_5 := kt hg6 5 k5_5
    have k6_6 := kt hg6 6 k5_6
    have k6_7 := kt hg6 7 k5_7
    have k6_58 := kt hg6 58 (hB6.is 8)
    refine wp_cond_split (t := (X i) != (Y i)) ((fr_eval rfl).trans k6_58) (fun hc11 => ?_) (fun hc11 => ?_)
    ·
      have hc11' := hc11; try simp only [ba] at hc11'
      refine rw_ 10 [(59, 0), (60, 1), (61, 2), (62, 3), (63, 4), (64, 5), (65, 6), (66, 7), (67, 8), (4, 9)] [[], [], [0, 1], [2], [], [], [4, 5], [6], [3, 7], [8]] (rel [is (.slice (some ⟨g8', 0, none⟩) 10 c9'), iI ((i : Int)), is (.pointer (some ⟨bX, oX + i, none⟩)), iI ((X i)), is (.slice (some ⟨g13', 0, none⟩) 10 c14'), iI ((i : Int)), is (.pointer (some ⟨bY, oY + i, none⟩)), iI ((Y i)), iI ((X i) - (Y i)), iI ((X i) - (Y i))])
        ⟨fun f s W hW k m n o a => opm (a.v 5 k6_5),
    fun f s W hW k m n o a => opm (a.v 7 k6_7),
    fun f s W hW k m n o a => opv rfl rfl (by simp [go_sem, a.e 59 (k 0 rfl), a.e 60 (k 1 rfl), haX, hi10n, hi10i]) rfl,
    fun f s W hW k m n o a => by have cu := (ii_nth (q24'.below hW (Nat.le_refl _)) haX (by simp; omega)).trans (by rw [hX i]); exact opv rfl rfl (by simp [go_sem, a.e 61 (k 2 rfl), cu]) rfl,
    fun f s W hW k m n o a => opm (a.v 6 k6_6),
    fun f s W hW k m n o a => opm (a.v 7 k6_7),
    fun f s W hW k m n o a => opv rfl rfl (by simp [go_sem, a.e 63 (k 4 rfl), a.e 64 (k 5 rfl), haY, hi10n, hi10i]) rfl,
    fun f s W hW k m n o a => by have cu := (ii_nth (q25'.below hW (Nat.le_refl _)) haY (by simp; omega)).trans (by rw [hY i]); exact opv rfl rfl (by simp [go_sem, a.e 65 (k 6 rfl), cu]) rfl,
    fun f s W hW k m n o a => opv rfl rfl (by simp [go_sem, a.e 62 (k 3 rfl), a.e 66 (k 7 rfl), IntWalk.i64_in ((X i) - (Y i)) (by omega)]) rfl,
    fun f s W hW k m n o a => opm (a.v 67 (k 8 rfl)), trivial⟩ ?_
      intro f7 s7 W7 hB7 g7 hg7 z7
      have fB7 := hB7.f fB6
      have q26' := q24'.bw hB7
      have q27' := q25'.bw hB7
      have k7_4 := kt hg7 4 (hB7.is 9)
      refine wp_ret ?_
      refine inBlock_ret (then_ret (then_ret (inBlock_ret (then_ret ?_))))
      refine leave_one (N := 73) (.inr rfl) Tryz.results39 rfl k7_4 ?_
      exact ⟨by rw [hne i hi10n lp1 (bne_iff_ne.1 hc11)], fB7⟩
    ·
      have hc11' := hc11; try simp only [ba] at hc11'
      refine wp_skip ?_
      refine ibn ?_
      refine hK9 _ _ ?_
      refine ry 3 [(48, 0), (49, 1), (7, 2)] [[], [0], [0, 1]] (rel [iI ((i : Int)), iI ((i : Int) + 1), iI ((i : Int) + 1)])
        ⟨fun f s W hW k m n o a => opm (a.v 7 ((n 2 7 rfl rfl).trans k6_7)),
    fun f s W hW k m n o a => opv rfl rfl (by simp [go_sem, a.e 48 (k 0 rfl), IntWalk.i64_in ((i : Int) + 1) (by omega)]) rfl,
    fun f s W hW k m n o a => opm (a.v 49 (k 1 rfl)), trivial⟩ ?_
      intro f8 s8 W8 hB8 g8 hg8 z8
      have fB8 := hB8.f fB6
      have b8_0 := hB8.b (hB6.b (hB5.b b_19_0))
      have b8_1 := hB8.b (hB6.b (hB5.b b_19_1))
      have q28' := q24'.bw hB8
      have q29' := q25'.bw hB8
      refine wpe ?_
      have k8_4 := kt hg8 4 (kt hg6 4 (kt hg5 4 k_19_4))
      have k8_5 := kt hg8 5 k6_5
      have k8_6 := kt hg8 6 k6_6
      have k8_7 := kt hg8 7 (hB8.is 2)
      refine then_normal ?_
      exact ⟨_, by omega, g8, rfl, i + 1, rfl, k8_4, k8_5, k8_6, k8_7.trans (by go_num), fB8, (by omega), b8_0, b8_1, q28', q29', (by omega), (same_step lp1 hc11)⟩
  ·
    have hc8' := hc8; try simp only [ba] at hc8'
    have hi10' : i = 10 := by
      have h4 : ¬ ((i : Int) < 10) := fun h5 => by rw [decide_eq_true h5] at hc8; cases hc8
      omega
    refine wp_exit ?_
    refine then_exit ?_
    refine then_exit ?_
    refine inBlock_at ?_
    refine hK4 _ _ ?_
    refine rw_ 6 [(68, 0), (69, 1), (70, 2), (71, 3), (72, 4), (4, 5)] [[], [0], [], [2], [1, 3], [4]] (rel [is (.slice (some ⟨g8', 0, none⟩) 10 c9'), iI 10, is (.slice (some ⟨g13', 0, none⟩) 10 c14'), iI 10, iI 0, iI 0])
      ⟨fun f s W hW k m n o a => opm (a.v 5 k5_5),
    fun f s W hW k m n o a => opv rfl rfl (by simp [go_sem, a.e 68 (k 0 rfl)]) rfl,
    fun f s W hW k m n o a => opm (a.v 6 k5_6),
    fun f s W hW k m n o a => opv rfl rfl (by simp [go_sem, a.e 70 (k 2 rfl)]) rfl,
    fun f s W hW k m n o a => opv rfl rfl (by simp [go_sem, a.e 69 (k 1 rfl), a.e 71 (k 3 rfl), IntWalk.i64_in (0) (by omega)]) rfl,
    fun f s W hW k m n o a => opm (a.v 72 (k 4 rfl)), trivial⟩ ?_
    intro f9 s9 W9 hB9 g9 hg9 z9
    have fB9 := hB9.f fB5
    have q30' := q22'.bw hB9
    have q31' := q23'.bw hB9
    have k9_4 := kt hg9 4 (hB9.is 5)
    refine wp_ret ?_
    refine leave_one (N := 73) (.inr rfl) Tryz.results39 rfl k9_4 ?_
    exact ⟨by rw [← heq (fun j hj => lp1 j (by omega))], fB9⟩
end Go.Proofs.YthnediamopehfaaGreat
