/- Part of the proof: what the claim leans on. -/
import Derived.Test.YthnediamopehfaaGreatZBLS3
set_option linter.unusedSimpArgs false
set_option linter.unusedVariables false
namespace Go.Proofs.YthnediamopehfaaGreat
open Go.RowKit
/-- Whether a check holds with all calipers of a span. -/
def alwR (b : Bl) (w : Wi) (s : Sp) (k : Nat) : Bool := (rangeL s.1 s.2).all (holdsR b w k)
theorem alw_no {b : Bl} {w : Wi} {lo hi c : Int} {k : Nat} (h1 : lo ≤ c) (h2 : c ≤ hi) (h : (!(holdsR b w k c)) = true) : alwR b w (lo, hi) k = false := by
  unfold alwR rangeL
  rw [List.all_eq_false]
  exact ⟨c, List.mem_map.2 ⟨(c - lo).toNat, List.mem_range.2 (by simp only; omega), by simp only; omega⟩, by simpa using h⟩
theorem alw_yes {b : Bl} {w : Wi} {lo hi c : Int} {k : Nat} (h : ∀ d, lo ≤ d → d < c → holdsR b w k d = true) (hc : hi < c) : alwR b w (lo, hi) k = true := by
  unfold alwR rangeL
  rw [List.all_eq_true]
  intro x hx
  obtain ⟨j, hj, rfl⟩ := List.mem_map.1 hx
  have := List.mem_range.1 hj
  exact h _ (by simp only; omega) (by simp only at *; omega)
set_option maxRecDepth 100000 in
set_option maxHeartbeats 4000000 in
theorem always_any (a1 a2 a3 : Option Addr) (c1 c2 c3 : Nat) (al : Option Addr) (cl : Nat) (b : Bl) (vi : Wi) (k : Nat) (ki lo hi : Int) (w : World) (h1 : Ii w a1 b.panels.length c1 b.panels) (h2 : Ii w a2 b.top.length c2 b.top) (h3 : Ii w a3 b.bottom.length c3 b.bottom) (hL : Ii w al 1 cl [ki]) (hck : checkErr b = 0) (hw : WishIn vi) (hki : ki = (k : Int)) (hk : k < 10) (gl : 0 ≤ lo) (glh : lo ≤ hi + 1) (gh : hi ≤ 10000) :
  Calls Tryz.prog 68 #[.agg #[.int .i64 b.tab, .slice (a1) (b.panels.length) (c1), .int .i64 b.height, .slice (a2) (b.top.length) (c2), .slice (a3) (b.bottom.length) (c3), .int .i64 b.slot, .bool b.isOpen], .agg #[.int .i64 vi.length.1, .int .i64 vi.length.2, .int .i64 vi.width.1, .int .i64 vi.width.2, .int .i64 vi.height.1, .int .i64 vi.height.2, .int .i64 vi.outer.1, .int .i64 vi.outer.2, .int .i64 vi.inner.1, .int .i64 vi.inner.2, .bool vi.isOpen], .agg #[.int .i64 lo, .int .i64 hi], .slice (al) (1) (cl)] w (fun e w' => e = .returned (.bool (alwR b vi (lo, hi) k)) ∧ Below w.heap.size w w') := by
 obtain ⟨ql, ol, hql, hqll, hqlc⟩ := hL.at (by simp)
 refine calls_fr Tryz.func68 Tryz.ntmps68 rfl rfl fun g hg => ?_
 have k0 : g 0 = .agg #[.int .i64 b.tab, .slice (a1) (b.panels.length) (c1), .int .i64 b.height, .slice (a2) (b.top.length) (c2), .slice (a3) (b.bottom.length) (c3), .int .i64 b.slot, .bool b.isOpen] := hg 0
 have k1 : g 1 = .agg #[.int .i64 vi.length.1, .int .i64 vi.length.2, .int .i64 vi.width.1, .int .i64 vi.width.2, .int .i64 vi.height.1, .int .i64 vi.height.2, .int .i64 vi.outer.1, .int .i64 vi.outer.2, .int .i64 vi.inner.1, .int .i64 vi.inner.2, .bool vi.isOpen] := hg 1
 have k2 : g 2 = .agg #[.int .i64 lo, .int .i64 hi] := hg 2
 have k3 : g 3 = .slice (al) (1) (cl) := hg 3
 clear hg
 have fB0 : Below w.heap.size w w := Below.refl _ _
 refine wp_seq_k fun K1 hK1 => ?_
 refine region_dk 4 [(4, 0), (5, 1), (6, 2), (8, 3)] [[], [], [], []] (rel [bx 0 #[.int .i64 b.tab, .slice (a1) (b.panels.length) (c1), .int .i64 b.height, .slice (a2) (b.top.length) (c2), .slice (a3) (b.bottom.length) (c3), .int .i64 b.slot, .bool b.isOpen] 24,
   bx 1 #[.int .i64 vi.length.1, .int .i64 vi.length.2, .int .i64 vi.width.1, .int .i64 vi.width.2, .int .i64 vi.height.1, .int .i64 vi.height.2, .int .i64 vi.outer.1, .int .i64 vi.outer.2, .int .i64 vi.inner.1, .int .i64 vi.inner.2, .bool vi.isOpen] 43,
   bx 2 #[.int .i64 lo, .int .i64 hi] 26,
   is (.bool false)])
  ⟨bx_k, bx_k, bx_k, is_k, trivial⟩
  ⟨fun f s W h i j l m a => opb rfl rfl (by simp [go_sem, a.e 0 k0]),
  fun f s W h i j l m a => opb rfl rfl (by simp [go_sem, a.e 1 k1]),
  fun f s W h i j l m a => opb rfl rfl (by simp [go_sem, a.e 2 k2]),
  fun f s W h i j l m a => opv rfl rfl (by simp [go_sem]) rfl, trivial⟩ ?_
 intro f1 s1 W1 hB1 g1 hg1
 have fB1 := hB1.f fB0
 have z1 := hB1.below.size
 obtain ⟨r1_0, br1_0⟩ := hB1.is 0
 have lr1_0 := hB1.lr 0 br1_0
 obtain ⟨r1_1, br1_1⟩ := hB1.is 1
 have lr1_1 := hB1.lr 1 br1_1
 obtain ⟨r1_2, br1_2⟩ := hB1.is 2
 have lr1_2 := hB1.lr 2 br1_2
 have ne1_0_1 := hB1.nb 0 1
 have ne1_0_2 := hB1.nb 0 2
 have ne1_1_2 := hB1.nb 1 2
 refine hK1 _ _ ?_
 have k1_3 := kt hg1 3 k3
 have k1_4 := kt hg1 4 r1_0
 have k1_5 := kt hg1 5 r1_1
 have k1_6 := kt hg1 6 r1_2
 have k1_8 := kt hg1 8 (hB1.is 3)
 refine wp_seq_k fun K2 hK2 => ?_
 refine wp_seq_k fun K3 hK3 => ?_
 refine region_dk 1 [(9, 0)] [[]] (rel [is (.int .i64 0)])
  ⟨is_k, trivial⟩
  ⟨fun f s W h i j l m a => opv rfl rfl (by simp [go_sem]) rfl, trivial⟩ ?_
 intro f2 s2 W2 hB2 g2 hg2
 have fB2 := hB2.f fB1
 have z2 := hB2.below.size
 have b2_0 := hB2.b br1_0
 have b2_1 := hB2.b br1_1
 have b2_2 := hB2.b br1_2
 refine hK3 _ _ ?_
 have k2_3 := kt hg2 3 k1_3
 have k2_4 := kt hg2 4 k1_4
 have k2_5 := kt hg2 5 k1_5
 have k2_6 := kt hg2 6 k1_6
 have k2_8 := kt hg2 8 k1_8
 have k2_9 := kt hg2 9 (hB2.is 0)
 refine wp_block ?_
 refine wp_loop_rounds 2 ?_
 rw [rounds_succ]
 refine wp_seq_k fun K4 hK4 => ?_
 refine wp_seq_k fun K5 hK5 => ?_
 refine region_dk 4 [(11, 0), (12, 1), (13, 2), (14, 3)] [[], [], [1], [0, 1, 2]] (rel [is (.int .i64 0),
   is (.slice (al) (1) (cl)),
   is (.int .i64 1),
   is (.bool true)])
  ⟨is_k, is_k, is_k, is_k, trivial⟩
  ⟨fun f s W h i j l m a => opv rfl rfl (by simp [go_sem, a.e 9 k2_9]) rfl,
  fun f s W h i j l m a => opv rfl rfl (by simp [go_sem, a.e 3 k2_3]) rfl,
  fun f s W h i j l m a => opv rfl rfl (by simp [go_sem, a.e 12 (i 1 rfl)]) rfl,
  fun f s W h i j l m a => opv rfl rfl (by simp [go_sem, a.e 11 (i 0 rfl), a.e 13 (i 2 rfl)]) rfl, trivial⟩ ?_
 intro f3 s3 W3 hB3 g3 hg3
 have fB3 := hB3.f fB2
 have z3 := hB3.below.size
 have b3_0 := hB3.b b2_0
 have b3_1 := hB3.b b2_1
 have b3_2 := hB3.b b2_2
 refine hK5 _ _ ?_
 have k3_3 := kt hg3 3 k2_3
 have k3_4 := kt hg3 4 k2_4
 have k3_5 := kt hg3 5 k2_5
 have k3_6 := kt hg3 6 k2_6
 have k3_8 := kt hg3 8 k2_8
 have k3_9 := kt hg3 9 k2_9
 have k3_14 := kt hg3 14 (hB3.is 3)
 refine wp_cond_true ((fr_eval rfl).trans k3_14) ?_
 refine wp_skip ?_
 refine hK4 _ _ ?_
 refine wp_seq_k fun K7 hK7 => ?_
 refine wp_block ?_
 refine wp_seq_k fun K8 hK8 => ?_
 refine region_dk 3 [(17, 0), (18, 1), (10, 2)] [[], [0], [0, 1]] (rel [is (.pointer (some ⟨(s1 2), 0, none⟩)),
   is (.int .i64 lo),
   is (.int .i64 lo)])
  ⟨is_k, is_k, is_k, trivial⟩
  ⟨fun f s W h i j l m a => opv rfl rfl (by simp [go_sem, a.e 6 k3_6]) rfl,
  fun f s W h i j l m a => opv rfl rfl (by simp [go_sem, a.e 17 (i 0 rfl), cb b3_2 h 0]) rfl,
  fun f s W h i j l m a => opv rfl rfl (by simp [go_sem, a.e 18 (i 1 rfl)]) rfl, trivial⟩ ?_
 intro f4 s4 W4 hB4 g4 hg4
 have fB4 := hB4.f fB3
 have z4 := hB4.below.size
 have b4_0 := hB4.b b3_0
 have b4_1 := hB4.b b3_1
 have b4_2 := hB4.b b3_2
 refine hK8 _ _ ?_
 have k4_3 := kt hg4 3 k3_3
 have k4_4 := kt hg4 4 k3_4
 have k4_5 := kt hg4 5 k3_5
 have k4_6 := kt hg4 6 k3_6
 have k4_8 := kt hg4 8 k3_8
 have k4_9 := kt hg4 9 k3_9
 have k4_14 := kt hg4 14 k3_14
 have k4_10 := kt hg4 10 (hB4.is 2)
 refine wp_block ?_
 refine wp_loop_n (fun m_ a_ W_ => ∃ g_ : Nat → Value, a_ = fr 34 g_ ∧ (∃ c : Int, m_ = (hi + 1 - c).toNat ∧ g_ 3 = .slice (al) (1) (cl) ∧ g_ 4 = .pointer (some ⟨(s1 0), 0, none⟩) ∧ g_ 5 = .pointer (some ⟨(s1 1), 0, none⟩) ∧ g_ 6 = .pointer (some ⟨(s1 2), 0, none⟩) ∧ g_ 8 = .bool false ∧ g_ 9 = .int .i64 0 ∧ g_ 14 = .bool true ∧ g_ 10 = .int .i64 c ∧ Below w.heap.size w W_ ∧ W4.heap.size ≤ W_.heap.size ∧ W_.heap[(s1 0)]? = some (.cells #[.int .i64 b.tab, .slice (a1) (b.panels.length) (c1), .int .i64 b.height, .slice (a2) (b.top.length) (c2), .slice (a3) (b.bottom.length) (c3), .int .i64 b.slot, .bool b.isOpen] 24 (0, 0)) ∧ W_.heap[(s1 1)]? = some (.cells #[.int .i64 vi.length.1, .int .i64 vi.length.2, .int .i64 vi.width.1, .int .i64 vi.width.2, .int .i64 vi.height.1, .int .i64 vi.height.2, .int .i64 vi.outer.1, .int .i64 vi.outer.2, .int .i64 vi.inner.1, .int .i64 vi.inner.2, .bool vi.isOpen] 43 (0, 0)) ∧ W_.heap[(s1 2)]? = some (.cells #[.int .i64 lo, .int .i64 hi] 26 (0, 0)) ∧ (lo ≤ c) ∧ (c ≤ hi + 1) ∧ (∀ d, lo ≤ d → d < c → holdsR b vi k d = true))) ⟨_, g4, rfl, lo, rfl, k4_3, k4_4, k4_5, k4_6, k4_8, k4_9, k4_14, k4_10.trans (by rfl), fB4, Nat.le_refl _, b4_0, b4_1, b4_2, (Int.le_refl _), (by omega), (fun d h1 h2 => absurd h2 (by omega))⟩ ?_
 rintro _ _ W_1 ⟨g_1, rfl, c, rfl, k_1_3, k_1_4, k_1_5, k_1_6, k_1_8, k_1_9, k_1_14, k_1_10, fB_1, z_1, b_1_0, b_1_1, b_1_2, lp0, lp1, lp2⟩
 refine wp_seq_k fun K9 hK9 => ?_
 refine wp_seq_k fun K10 hK10 => ?_
 refine region_dk 4 [(19, 0), (20, 1), (21, 2), (22, 3)] [[], [], [1], [0, 1, 2]] (rel [is (.int .i64 c),
   is (.pointer (some ⟨(s1 2), 1, none⟩)),
   is (.int .i64 hi),
   is (.bool (decide (c ≤ hi)))])
  ⟨is_k, is_k, is_k, is_k, trivial⟩
  ⟨fun f s W h i j l m a => opv rfl rfl (by simp [go_sem, a.e 10 k_1_10]) rfl,
  fun f s W h i j l m a => opv rfl rfl (by simp [go_sem, a.e 6 k_1_6]) rfl,
  fun f s W h i j l m a => opv rfl rfl (by simp [go_sem, a.e 20 (i 1 rfl), cb b_1_2 h 1]) rfl,
  fun f s W h i j l m a => opv rfl rfl (by simp [go_sem, a.e 19 (i 0 rfl), a.e 21 (i 2 rfl)]) rfl, trivial⟩ ?_
 intro f5 s5 W5 hB5 g5 hg5
 have fB5 := hB5.f fB_1
 have z5 := hB5.below.size
 have b5_0 := hB5.b b_1_0
 have b5_1 := hB5.b b_1_1
 have b5_2 := hB5.b b_1_2
 refine hK10 _ _ ?_
 have k5_3 := kt hg5 3 k_1_3
 have k5_4 := kt hg5 4 k_1_4
 have k5_5 := kt hg5 5 k_1_5
 have k5_6 := kt hg5 6 k_1_6
 have k5_8 := kt hg5 8 k_1_8
 have k5_9 := kt hg5 9 k_1_9
 have k5_14 := kt hg5 14 k_1_14
 have k5_10 := kt hg5 10 k_1_10
 have k5_22 := kt hg5 22 (hB5.is 3)
 refine wp_cond_split (t := decide (c ≤ hi)) ((fr_eval rfl).trans k5_22) (fun hc11 => ?_) (fun hc11 => ?_)
 ·
  have hc11' := hc11; try simp only [ba] at hc11'
  refine wp_skip ?_
  refine hK9 _ _ ?_
  refine wp_seq_k fun K12 hK12 => ?_
  refine wp_block ?_
  refine wp_seq_k fun K13 hK13 => ?_
  refine region_dk 9 [(25, 0), (26, 1), (27, 2), (28, 3), (29, 4), (30, 5), (31, 6), (32, 7), (33, 8)] [[], [], [], [], [2, 3], [2, 3, 4], [], [0, 1, 2, 3, 4, 5, 6], [0, 1, 2, 3, 4, 5, 6, 7]] (rel [is (.agg #[.int .i64 b.tab, .slice (a1) (b.panels.length) (c1), .int .i64 b.height, .slice (a2) (b.top.length) (c2), .slice (a3) (b.bottom.length) (c3), .int .i64 b.slot, .bool b.isOpen]),
   is (.agg #[.int .i64 vi.length.1, .int .i64 vi.length.2, .int .i64 vi.width.1, .int .i64 vi.width.2, .int .i64 vi.height.1, .int .i64 vi.height.2, .int .i64 vi.outer.1, .int .i64 vi.outer.2, .int .i64 vi.inner.1, .int .i64 vi.inner.2, .bool vi.isOpen]),
   is (.slice (al) (1) (cl)),
   is (.int .i64 0),
   is (.pointer (some ⟨ql, ol, none⟩)),
   is (.int .i64 ki),
   is (.int .i64 c),
   is (.bool (holdsR b vi k c)),
   is (.bool (!(holdsR b vi k c)))])
   ⟨is_k, is_k, is_k, is_k, is_k, is_k, is_k, is_k, is_k, trivial⟩
   ⟨fun f s W h i j l m a => opv rfl rfl (by simp [go_sem, a.e 4 k5_4, cb b5_0 h 0, cb b5_0 h 1, cb b5_0 h 2, cb b5_0 h 3, cb b5_0 h 4, cb b5_0 h 5, cb b5_0 h 6]) rfl,
  fun f s W h i j l m a => opv rfl rfl (by simp [go_sem, a.e 5 k5_5, cb b5_1 h 0, cb b5_1 h 1, cb b5_1 h 2, cb b5_1 h 3, cb b5_1 h 4, cb b5_1 h 5, cb b5_1 h 6, cb b5_1 h 7, cb b5_1 h 8, cb b5_1 h 9, cb b5_1 h 10]) rfl,
  fun f s W h i j l m a => opv rfl rfl (by simp [go_sem, a.e 3 k5_3]) rfl,
  fun f s W h i j l m a => opv rfl rfl (by simp [go_sem, a.e 9 k5_9]) rfl,
  fun f s W h i j l m a => opv rfl rfl (by simp [go_sem, a.e 27 (i 2 rfl), a.e 28 (i 3 rfl), hql]) rfl,
  fun f s W h i j l m a => by have n := below_trans fB5 h; have u_ : W.cell? ⟨ql, ol, none⟩ = some (.int .i64 ki) := (n.cell (p := ⟨ql, ol, none⟩) hqll).trans (hqlc 0 (by simp)); exact opv rfl rfl (by simp [go_sem, a.e 29 (i 4 rfl), u_]) rfl,
  fun f s W h i j l m a => opv rfl rfl (by simp [go_sem, a.e 10 k5_10]) rfl,
  fun f s W h i j l m a => by have n := below_trans fB5 h; exact opc (args := #[.agg #[.int .i64 b.tab, .slice (a1) (b.panels.length) (c1), .int .i64 b.height, .slice (a2) (b.top.length) (c2), .slice (a3) (b.bottom.length) (c3), .int .i64 b.slot, .bool b.isOpen], .agg #[.int .i64 vi.length.1, .int .i64 vi.length.2, .int .i64 vi.width.1, .int .i64 vi.width.2, .int .i64 vi.height.1, .int .i64 vi.height.2, .int .i64 vi.outer.1, .int .i64 vi.outer.2, .int .i64 vi.inner.1, .int .i64 vi.inner.2, .bool vi.isOpen], .int .i64 ki, .int .i64 c]) rfl rfl (by simp [go_sem, a.e 25 (i 0 rfl), a.e 26 (i 1 rfl), a.e 30 (i 5 rfl), a.e 31 (i 6 rfl)]) (holdsR_blk (b := b) vi k ki c W ⟨_, _, _, _, _, _, _, _, _, rfl, (h1.below n (Nat.le_refl _)), (h2.below n (Nat.le_refl _)), (h3.below n (Nat.le_refl _))⟩ hck hw (by omega) hk hki),
  fun f s W h i j l m a => opv rfl rfl (by simp [go_sem, a.e 32 (i 7 rfl)]) rfl, trivial⟩ ?_
  intro f6 s6 W6 hB6 g6 hg6
  have fB6 := hB6.f fB5
  have z6 := hB6.below.size
  have b6_0 := hB6.b b5_0
  have b6_1 := hB6.b b5_1
  have b6_2 := hB6.b b5_2
  refine hK13 _ _ ?_
  have k6_3 := kt hg6 3 k5_3
  have k6_4 := kt hg6 4 k5_4
  have k6_5 := kt hg6 5 k5_5
  have k6_6 := kt hg6 6 k5_6
  have k6_8 := kt hg6 8 k5_8
  have k6_9 := kt hg6 9 k5_9
  have k6_14 := kt hg6 14 k5_14
  have k6_10 := kt hg6 10 k5_10
  have k6_22 := kt hg6 22 k5_22
  have k6_33 := kt hg6 33 (hB6.is 8)
  refine wp_cond_split (t := !(holdsR b vi k c)) ((fr_eval rfl).trans k6_33) (fun hc14 => ?_) (fun hc14 => ?_)
  ·
   have hc14' := hc14; try simp only [ba] at hc14'
   refine wp_seq_k fun K15 hK15 => ?_
   refine region_dk 1 [(8, 0)] [[]] (rel [is (.bool false)])
    ⟨is_k, trivial⟩
    ⟨fun f s W h i j l m a => opv rfl rfl (by simp [go_sem]) rfl, trivial⟩ ?_
   intro f7 s7 W7 hB7 g7 hg7
   have fB7 := hB7.f fB6
   have z7 := hB7.below.size
   have b7_0 := hB7.b b6_0
   have b7_1 := hB7.b b6_1
   have b7_2 := hB7.b b6_2
   refine hK15 _ _ ?_
   have k7_3 := kt hg7 3 k6_3
   have k7_4 := kt hg7 4 k6_4
   have k7_5 := kt hg7 5 k6_5
   have k7_6 := kt hg7 6 k6_6
   have k7_9 := kt hg7 9 k6_9
   have k7_14 := kt hg7 14 k6_14
   have k7_10 := kt hg7 10 k6_10
   have k7_22 := kt hg7 22 k6_22
   have k7_33 := kt hg7 33 k6_33
   have k7_8 := kt hg7 8 (hB7.is 0)
   refine wp_ret ?_
   refine inBlock_ret (then_ret (then_ret (inBlock_ret (inBlock_ret (then_ret (then_ret (inBlock_ret (then_ret ?_))))))))
   refine leave_one (N := 34) (v := .bool false) (.inr rfl) Tryz.results68 rfl k7_8 ?_
   exact ⟨by rw [alw_no lp0 (by omega) hc14], fB7⟩
  ·
   have hc14' := hc14; try simp only [ba] at hc14'
   refine wp_skip ?_
   refine inBlock_normal ?_
   refine hK12 _ _ ?_
   refine region_dk 3 [(23, 0), (24, 1), (10, 2)] [[], [0], [0, 1]] (rel [is (.int .i64 c),
   is (.int .i64 (c + 1)),
   is (.int .i64 (c + 1))])
    ⟨is_k, is_k, is_k, trivial⟩
    ⟨fun f s W h i j l m a => opv rfl rfl (by simp [go_sem, a.e 10 ((l 2 10 rfl rfl).trans k6_10)]) rfl,
  fun f s W h i j l m a => opv rfl rfl (by simp [go_sem, a.e 23 (i 0 rfl), IntWalk.i64_in (c + 1) (by omega)]) rfl,
  fun f s W h i j l m a => opv rfl rfl (by simp [go_sem, a.e 24 (i 1 rfl)]) rfl, trivial⟩ ?_
   intro f8 s8 W8 hB8 g8 hg8
   have fB8 := hB8.f fB6
   have z8 := hB8.below.size
   have b8_0 := hB8.b b6_0
   have b8_1 := hB8.b b6_1
   have b8_2 := hB8.b b6_2
   refine wpOps_end ?_
   have k8_3 := kt hg8 3 k6_3
   have k8_4 := kt hg8 4 k6_4
   have k8_5 := kt hg8 5 k6_5
   have k8_6 := kt hg8 6 k6_6
   have k8_8 := kt hg8 8 k6_8
   have k8_9 := kt hg8 9 k6_9
   have k8_14 := kt hg8 14 k6_14
   have k8_22 := kt hg8 22 k6_22
   have k8_33 := kt hg8 33 k6_33
   have k8_10 := kt hg8 10 (hB8.is 2)
   refine then_normal ?_
   exact ⟨_, by omega, g8, rfl, c + 1, rfl, k8_3, k8_4, k8_5, k8_6, k8_8, k8_9, k8_14, k8_10.trans (by go_num), fB8, (by omega), b8_0, b8_1, b8_2, (by omega), (by omega), (up_step lp2 hc14)⟩
 ·
  have hc11' := hc11; try simp only [ba] at hc11'
  refine wp_exit ?_
  refine then_exit ?_
  refine then_exit ?_
  refine inBlock_at ?_
  refine inBlock_normal ?_
  refine hK7 _ _ ?_
  refine region_dk 3 [(15, 0), (16, 1), (9, 2)] [[], [0], [0, 1]] (rel [is (.int .i64 0),
   is (.int .i64 1),
   is (.int .i64 1)])
   ⟨is_k, is_k, is_k, trivial⟩
   ⟨fun f s W h i j l m a => opv rfl rfl (by simp [go_sem, a.e 9 ((l 2 9 rfl rfl).trans k5_9)]) rfl,
  fun f s W h i j l m a => opv rfl rfl (by simp [go_sem, a.e 15 (i 0 rfl), IntWalk.i64_in (1) (by omega)]) rfl,
  fun f s W h i j l m a => opv rfl rfl (by simp [go_sem, a.e 16 (i 1 rfl)]) rfl, trivial⟩ ?_
  intro f9 s9 W9 hB9 g9 hg9
  have fB9 := hB9.f fB5
  have z9 := hB9.below.size
  have b9_0 := hB9.b b5_0
  have b9_1 := hB9.b b5_1
  have b9_2 := hB9.b b5_2
  refine wpOps_end ?_
  have k9_3 := kt hg9 3 k5_3
  have k9_4 := kt hg9 4 k5_4
  have k9_5 := kt hg9 5 k5_5
  have k9_6 := kt hg9 6 k5_6
  have k9_8 := kt hg9 8 k5_8
  have k9_14 := kt hg9 14 k5_14
  have k9_10 := kt hg9 10 k5_10
  have k9_22 := kt hg9 22 k5_22
  have k9_9 := kt hg9 9 (hB9.is 2)
  refine then_normal ?_
  rw [rounds_succ]
  refine wp_seq_k fun K16 hK16 => ?_
  refine wp_seq_k fun K17 hK17 => ?_
  refine region_dk 4 [(11, 0), (12, 1), (13, 2), (14, 3)] [[], [], [1], [0, 1, 2]] (rel [is (.int .i64 1),
   is (.slice (al) (1) (cl)),
   is (.int .i64 1),
   is (.bool false)])
   ⟨is_k, is_k, is_k, is_k, trivial⟩
   ⟨fun f s W h i j l m a => opv rfl rfl (by simp [go_sem, a.e 9 k9_9]) rfl,
  fun f s W h i j l m a => opv rfl rfl (by simp [go_sem, a.e 3 k9_3]) rfl,
  fun f s W h i j l m a => opv rfl rfl (by simp [go_sem, a.e 12 (i 1 rfl)]) rfl,
  fun f s W h i j l m a => opv rfl rfl (by simp [go_sem, a.e 11 (i 0 rfl), a.e 13 (i 2 rfl)]) rfl, trivial⟩ ?_
  intro f10 s10 W10 hB10 g10 hg10
  have fB10 := hB10.f fB9
  have z10 := hB10.below.size
  have b10_0 := hB10.b b9_0
  have b10_1 := hB10.b b9_1
  have b10_2 := hB10.b b9_2
  refine hK17 _ _ ?_
  have k10_3 := kt hg10 3 k9_3
  have k10_4 := kt hg10 4 k9_4
  have k10_5 := kt hg10 5 k9_5
  have k10_6 := kt hg10 6 k9_6
  have k10_8 := kt hg10 8 k9_8
  have k10_10 := kt hg10 10 k9_10
  have k10_22 := kt hg10 22 k9_22
  have k10_9 := kt hg10 9 k9_9
  have k10_14 := kt hg10 14 (hB10.is 3)
  refine wp_cond_false ((fr_eval rfl).trans k10_14) ?_
  refine wp_exit ?_
  refine then_exit ?_
  refine then_exit ?_
  refine inBlock_at ?_
  refine hK2 _ _ ?_
  refine wp_seq_k fun K19 hK19 => ?_
  refine region_dk 1 [(8, 0)] [[]] (rel [is (.bool true)])
   ⟨is_k, trivial⟩
   ⟨fun f s W h i j l m a => opv rfl rfl (by simp [go_sem]) rfl, trivial⟩ ?_
  intro f11 s11 W11 hB11 g11 hg11
  have fB11 := hB11.f fB10
  have z11 := hB11.below.size
  have b11_0 := hB11.b b10_0
  have b11_1 := hB11.b b10_1
  have b11_2 := hB11.b b10_2
  refine hK19 _ _ ?_
  have k11_8 := kt hg11 8 (hB11.is 0)
  refine wp_ret ?_
  refine leave_one (N := 34) (v := .bool true) (.inr rfl) Tryz.results68 rfl k11_8 ?_
  exact ⟨by rw [alw_yes lp2 (by omega)], fB11⟩
theorem always_blk {v : Value} {b : Bl} (vi : Wi) (k : Nat) (ki lo hi : Int) (al : Option Addr) (cl : Nat) (w : World) (hB : Blk w v b) (hL : Ii w al 1 cl [ki]) (hck : checkErr b = 0) (hw : WishIn vi) (hki : ki = (k : Int)) (hk : k < 10) (gl : 0 ≤ lo) (glh : lo ≤ hi + 1) (gh : hi ≤ 10000) :
    Calls Tryz.prog 68 #[v, .agg #[.int .i64 vi.length.1, .int .i64 vi.length.2, .int .i64 vi.width.1, .int .i64 vi.width.2, .int .i64 vi.height.1, .int .i64 vi.height.2, .int .i64 vi.outer.1, .int .i64 vi.outer.2, .int .i64 vi.inner.1, .int .i64 vi.inner.2, .bool vi.isOpen], .agg #[.int .i64 lo, .int .i64 hi], .slice al 1 cl] w (fun e w' => e = .returned (.bool (alwR b vi (lo, hi) k)) ∧ Below w.heap.size w w') := by
  obtain ⟨a1, n1, c1, a2, n2, c2, a3, n3, c3, rfl, h1, h2, h3⟩ := hB
  obtain rfl := h1.1; obtain rfl := h2.1; obtain rfl := h3.1
  exact always_any a1 a2 a3 c1 c2 c3 al cl b vi k ki lo hi w h1 h2 h3 hL hck hw hki hk gl glh gh
/-- The first number with a property. -/
def firstT (p : Int → Bool) : Nat → Int → Option Int
  | 0, _ => none
  | n + 1, c => if p c = true then some c else firstT p n (c + 1)
theorem firstT_some {p : Int → Bool} {c : Int} (hc : p c = true) : ∀ (n : Nat) (lo : Int), (∀ d, lo ≤ d → d < c → p d = false) → lo ≤ c → c < lo + (n : Int) → firstT p n lo = some c
  | 0, lo, _, h1, h2 => by omega
  | n + 1, lo, h, h1, h2 => by
    unfold firstT
    by_cases e : lo = c
    · subst e; rw [if_pos hc]
    · rw [if_neg (by rw [h lo (Int.le_refl _) (by omega)]; exact Bool.false_ne_true)]
      exact firstT_some hc n (lo + 1) (fun d h3 h4 => h d (by omega) h4) (by omega) (by omega)
theorem firstT_none {p : Int → Bool} : ∀ (n : Nat) (lo : Int), (∀ d, lo ≤ d → d < lo + (n : Int) → p d = false) → firstT p n lo = none
  | 0, lo, _ => rfl
  | n + 1, lo, h => by
    unfold firstT
    rw [if_neg (by rw [h lo (Int.le_refl _) (by omega)]; exact Bool.false_ne_true)]
    exact firstT_none n (lo + 1) fun d h3 h4 => h d (by omega) (by omega)
theorem firstT_in {p : Int → Bool} {c : Int} : ∀ (n : Nat) (lo : Int), firstT p n lo = some c → (lo ≤ c ∧ c < lo + (n : Int)) ∧ p c = true ∧ ∀ d, lo ≤ d → d < c → p d = false
  | 0, lo, h => by cases h
  | n + 1, lo, h => by
    unfold firstT at h
    by_cases e : p lo = true
    · rw [if_pos e] at h; obtain rfl := Option.some.inj h
      exact ⟨⟨Int.le_refl _, by omega⟩, e, fun d h1 h2 => by omega⟩
    · rw [if_neg e] at h
      obtain ⟨h1, h2, h3⟩ := firstT_in n (lo + 1) h
      exact ⟨⟨by omega, by omega⟩, h2, fun d h4 h5 => by
        by_cases e' : d = lo
        · subst e'; simpa using e
        · exact h3 d (by omega) h5⟩
/-- A blank with flaps of a kind. -/
def setF (b : Bl) (k : Nat) (f : Int) (wo : Bool) : Bl := { b with bottom := b.bottom.set k f, top := if wo = true then b.top else b.top.set k f }
/-- The shortest flap that does. -/
def flapQ (b : Bl) (w : Wi) (s : Sp) (k : Nat) : Option Int := firstT (fun f => alwR (setB b k f) w s (7 + k)) 3001 0
/-- What Flap leaves. -/
def FlapP (b : Bl) (v : Value) (w : Wi) (s : Sp) (k : Nat) (W : World) (e : Ending) (W' : World) : Prop :=
  (∀ f, flapQ b w s k = some f → ∃ u, e = .returned (.tuple #[u, .int .i64 0, .bool true]) ∧ NwBlk W.heap.size (setF b k f w.isOpen) u W' ∧ Below W.heap.size W W') ∧
  (flapQ b w s k = none → e = .returned (.tuple #[v, .int .i64 (if w.isOpen = true then 7 + (k : Int) else 5 + (k : Int)), .bool false]) ∧ Below W.heap.size W W')
theorem set_len1 {b : Bl} {k : Nat} {f : Int} {wo : Bool} : (setF b k f wo).bottom.length = b.bottom.length := List.length_set ..
theorem set_len2 {b : Bl} {k : Nat} {f : Int} {wo : Bool} : (setF b k f wo).top.length = b.top.length := by unfold setF; simp only; split <;> simp
theorem no_step2 {p : Int → Bool} {lo c : Int} (h : ∀ d, lo ≤ d → d < c → p d = false) (hc : p c = false) : ∀ d, lo ≤ d → d < c + 1 → p d = false := fun d h1 h2 => by
  by_cases e : d = c
  · subst e; exact hc
  · exact h d h1 (by omega)
set_option maxRecDepth 100000 in
set_option maxHeartbeats 8000000 in
theorem flap_ref (a1 a2 a3 : Option Addr) (c1 c2 c3 : Nat) (b : Bl) (vi : Wi) (k : Nat) (lo hi : Int) (w : World) (h1 : Ii w a1 b.panels.length c1 b.panels) (h2 : Ii w a2 b.top.length c2 b.top) (h3 : Ii w a3 b.bottom.length c3 b.bottom) (hck : checkErr b = 0) (hw : WishIn vi) (hk : k < 2) (gl : 0 ≤ lo) (glh : lo ≤ hi + 1) (gh : hi ≤ 10000) :
  Calls Tryz.prog 69 #[.agg #[.int .i64 b.tab, .slice (a1) (b.panels.length) (c1), .int .i64 b.height, .slice (a2) (b.top.length) (c2), .slice (a3) (b.bottom.length) (c3), .int .i64 b.slot, .bool b.isOpen], .agg #[.int .i64 vi.length.1, .int .i64 vi.length.2, .int .i64 vi.width.1, .int .i64 vi.width.2, .int .i64 vi.height.1, .int .i64 vi.height.2, .int .i64 vi.outer.1, .int .i64 vi.outer.2, .int .i64 vi.inner.1, .int .i64 vi.inner.2, .bool vi.isOpen], .agg #[.int .i64 lo, .int .i64 hi], .int .i64 ((k : Int))] w (FlapP b (.agg #[.int .i64 b.tab, .slice (a1) (b.panels.length) (c1), .int .i64 b.height, .slice (a2) (b.top.length) (c2), .slice (a3) (b.bottom.length) (c3), .int .i64 b.slot, .bool b.isOpen]) vi (lo, hi) k w) := by
 obtain ⟨⟨hl1, hl2, hl3⟩, -⟩ := good_nums hck
 have likb := Nat.not_le.2 (show k < b.bottom.length by omega)
 have likt := Nat.not_le.2 (show k < b.top.length by omega)
 refine calls_fr Tryz.func69 Tryz.ntmps69 rfl rfl fun g hg => ?_
 have k0 : g 0 = .agg #[.int .i64 b.tab, .slice (a1) (b.panels.length) (c1), .int .i64 b.height, .slice (a2) (b.top.length) (c2), .slice (a3) (b.bottom.length) (c3), .int .i64 b.slot, .bool b.isOpen] := hg 0
 have k1 : g 1 = .agg #[.int .i64 vi.length.1, .int .i64 vi.length.2, .int .i64 vi.width.1, .int .i64 vi.width.2, .int .i64 vi.height.1, .int .i64 vi.height.2, .int .i64 vi.outer.1, .int .i64 vi.outer.2, .int .i64 vi.inner.1, .int .i64 vi.inner.2, .bool vi.isOpen] := hg 1
 have k2 : g 2 = .agg #[.int .i64 lo, .int .i64 hi] := hg 2
 have k3 : g 3 = .int .i64 ((k : Int)) := hg 3
 clear hg
 have fB0 : Below w.heap.size w w := Below.refl _ _
 refine wp_seq_k fun K1 hK1 => ?_
 refine region_dk 6 [(4, 0), (5, 1), (6, 2), (8, 3), (9, 4), (10, 5)] [[], [], [], [], [], [4]] (rel [bx 0 #[.int .i64 b.tab, .slice (a1) (b.panels.length) (c1), .int .i64 b.height, .slice (a2) (b.top.length) (c2), .slice (a3) (b.bottom.length) (c3), .int .i64 b.slot, .bool b.isOpen] 24,
   bx 1 #[.int .i64 vi.length.1, .int .i64 vi.length.2, .int .i64 vi.width.1, .int .i64 vi.width.2, .int .i64 vi.height.1, .int .i64 vi.height.2, .int .i64 vi.outer.1, .int .i64 vi.outer.2, .int .i64 vi.inner.1, .int .i64 vi.inner.2, .bool vi.isOpen] 43,
   bx 2 #[.int .i64 lo, .int .i64 hi] 26,
   bx 3 #[.int .i64 0, .slice (none) (0) (0), .int .i64 0, .slice (none) (0) (0), .slice (none) (0) (0), .int .i64 0, .bool false] 24,
   is (.int .i64 0),
   is (.bool false)])
  ⟨bx_k, bx_k, bx_k, bx_k, is_k, is_k, trivial⟩
  ⟨fun f s W j l m q r a => opb rfl rfl (by simp [go_sem, a.e 0 k0]),
  fun f s W j l m q r a => opb rfl rfl (by simp [go_sem, a.e 1 k1]),
  fun f s W j l m q r a => opb rfl rfl (by simp [go_sem, a.e 2 k2]),
  fun f s W j l m q r a => opb rfl rfl (by simp [go_sem]),
  fun f s W j l m q r a => opv rfl rfl (by simp [go_sem]) rfl,
  fun f s W j l m q r a => opv rfl rfl (by simp [go_sem]) rfl, trivial⟩ ?_
 intro f1 s1 W1 hB1 g1 hg1
 have fB1 := hB1.f fB0
 have z1 := hB1.below.size
 obtain ⟨r1_0, br1_0⟩ := hB1.is 0
 have lr1_0 := hB1.lr 0 br1_0
 obtain ⟨r1_1, br1_1⟩ := hB1.is 1
 have lr1_1 := hB1.lr 1 br1_1
 obtain ⟨r1_2, br1_2⟩ := hB1.is 2
 have lr1_2 := hB1.lr 2 br1_2
 obtain ⟨r1_3, br1_3⟩ := hB1.is 3
 have lr1_3 := hB1.lr 3 br1_3
 have ne1_0_1 := hB1.nb 0 1
 have ne1_0_2 := hB1.nb 0 2
 have ne1_1_2 := hB1.nb 1 2
 have ne1_0_3 := hB1.nb 0 3
 have ne1_1_3 := hB1.nb 1 3
 have ne1_2_3 := hB1.nb 2 3
 refine hK1 _ _ ?_
 have k1_3 := kt hg1 3 k3
 have k1_4 := kt hg1 4 r1_0
 have k1_5 := kt hg1 5 r1_1
 have k1_6 := kt hg1 6 r1_2
 have k1_8 := kt hg1 8 r1_3
 have k1_9 := kt hg1 9 (hB1.is 4)
 have k1_10 := kt hg1 10 (hB1.is 5)
 refine wp_seq_k fun K2 hK2 => ?_
 refine region_dk 3 [(14, 0), (15, 1), (11, 2)] [[], [0], [], [0, 1, 2]] (rel [is (.agg #[.int .i64 b.tab, .slice (a1) (b.panels.length) (c1), .int .i64 b.height, .slice (a2) (b.top.length) (c2), .slice (a3) (b.bottom.length) (c3), .int .i64 b.slot, .bool b.isOpen]),
   fun v s W => OwBlk (s 1) (b) v W,
   bx 2 #[.int .i64 0, .slice (none) (0) (0), .int .i64 0, .slice (none) (0) (0), .slice (none) (0) (0), .int .i64 0, .bool false] 24])
  ⟨is_k, ⟨fun v k W W' hb h => h.below hb, fun v s s' W e h => by have h' : OwBlk (s 1) (b) v W := h; show OwBlk (s' 1) (b) v W; rw [← e 1 (by simp)]; exact h'⟩, bx_k, trivial⟩
  ⟨fun f s W j l m q r a => opv rfl rfl (by simp [go_sem, a.e 4 k1_4, cb br1_0 j 0, cb br1_0 j 1, cb br1_0 j 2, cb br1_0 j 3, cb br1_0 j 4, cb br1_0 j 5, cb br1_0 j 6]) rfl,
  fun f s W j l m q r a => by have u := below_trans fB1 j; exact opDo_call (args := #[.agg #[.int .i64 b.tab, .slice (a1) (b.panels.length) (c1), .int .i64 b.height, .slice (a2) (b.top.length) (c2), .slice (a3) (b.bottom.length) (c3), .int .i64 b.slot, .bool b.isOpen]]) rfl rfl (by simp [go_sem, a.e 14 (l 0 rfl)]) (copy_ow _ _ _ _ _ _ b W (h1.below u (Nat.le_refl _)) (h2.below u (Nat.le_refl _)) (h3.below u (Nat.le_refl _)) hck) (fun e W' h => by obtain ⟨v, e1, h1, h2⟩ := h; exact ⟨v, e1, h2, (show OwBlk (upd s 1 W.heap.size 1) (b) v W' from by rw [upd_at]; exact h1)⟩),
  fun f s W j l m q r a => opb rfl rfl (by simp [go_sem]), trivial⟩ ?_
 intro f2 s2 W2 hB2 g2 hg2
 have fB2 := hB2.f fB1
 have z2 := hB2.below.size
 have b2_0 := hB2.b br1_0
 have b2_1 := hB2.b br1_1
 have b2_2 := hB2.b br1_2
 have b2_3 := hB2.b br1_3
 obtain ⟨g2', c5', g3', c6', g4', c7', r2_1, q8', q9', q10', q11', q12', q13'⟩ := hB2.is 1
 have la2_1 := hB2.from' 1 (by decide)
 have lo2_1_o0 := q8'.lim
 have q14' := q8'.low (B' := w.heap.size) (Nat.le_trans fB1.size (la2_1))
 have lo2_1_o1 := q9'.lim
 have q15' := q9'.low (B' := w.heap.size) (Nat.le_trans fB1.size (la2_1))
 have lo2_1_o2 := q10'.lim
 have q16' := q10'.low (B' := w.heap.size) (Nat.le_trans fB1.size (la2_1))
 obtain ⟨r2_2, br2_2⟩ := hB2.is 2
 have lr2_2 := hB2.lr 2 br2_2
 have oo2_1_o0_2 := hB2.off 1 2 (by decide) (by decide) (by decide) lo2_1_o0.1 (fun W h => (OwBlk.lt h r2_1).1) (fun _ _ _ h => lt_of_blk h.2)
 have oo2_1_o1_2 := hB2.off 1 2 (by decide) (by decide) (by decide) lo2_1_o1.1 (fun W h => (OwBlk.lt h r2_1).2.1) (fun _ _ _ h => lt_of_blk h.2)
 have oo2_1_o2_2 := hB2.off 1 2 (by decide) (by decide) (by decide) lo2_1_o2.1 (fun W h => (OwBlk.lt h r2_1).2.2) (fun _ _ _ h => lt_of_blk h.2)
 have k2_3 := kt hg2 3 k1_3
 have k2_4 := kt hg2 4 k1_4
 have k2_5 := kt hg2 5 k1_5
 have k2_6 := kt hg2 6 k1_6
 have k2_8 := kt hg2 8 k1_8
 have k2_9 := kt hg2 9 k1_9
 have k2_10 := kt hg2 10 k1_10
 have k2_15 := kt hg2 15 r2_1
 have k2_11 := kt hg2 11 r2_2
 obtain ⟨W3, hW3⟩ : ∃ W', W' = W2.setRow (s2 2) #[.int .i64 b.tab, .slice (some ⟨g2', 0, none⟩) (b.panels.length) (c5'), .int .i64 b.height, .slice (some ⟨g3', 0, none⟩) (b.top.length) (c6'), .slice (some ⟨g4', 0, none⟩) (b.bottom.length) (c7'), .int .i64 b.slot, .bool b.isOpen] := ⟨_, rfl⟩
 refine tail_skip (o := _) rfl ⟨rfl, rfl⟩ (run_seg hW3 (fr_ev k2_11) (fr_ev k2_15) br2_2 rfl rfl rfl rfl) ?_
 obtain ⟨fB3, nb3, ot3, z3⟩ := seg_facts hW3 fB2 br2_2 (by omega)
 clear hW3
 have b3_0 := ot3 _ _ (by omega) b2_0
 have b3_1 := ot3 _ _ (by omega) b2_1
 have b3_2 := ot3 _ _ (by omega) b2_2
 have b3_3 := ot3 _ _ (by omega) b2_3
 have q17' := q14'.other ot3 (by omega) z3
 have q18' := q15'.other ot3 (by omega) z3
 have q19' := q16'.other ot3 (by omega) z3
 refine wpOps_end ?_
 refine hK2 _ _ ?_
 refine wp_seq_k fun K3 hK3 => ?_
 refine region_dk 3 [(16, 0), (17, 1), (12, 2)] [[], [0], [0, 1]] (rel [is (.int .i64 ((k : Int))),
   is (.int .i64 (7 + (k : Int))),
   is (.int .i64 (7 + (k : Int)))])
  ⟨is_k, is_k, is_k, trivial⟩
  ⟨fun f s W j l m q r a => opv rfl rfl (by simp [go_sem, a.e 3 k2_3]) rfl,
  fun f s W j l m q r a => opv rfl rfl (by simp [go_sem, a.e 16 (l 0 rfl), IntWalk.i64_in (7 + (k : Int)) (by omega)]) rfl,
  fun f s W j l m q r a => opv rfl rfl (by simp [go_sem, a.e 17 (l 1 rfl)]) rfl, trivial⟩ ?_
 intro f4 s4 W4 hB4 g4 hg4
 have fB4 := hB4.f fB3
 have z4 := hB4.below.size
 have b4_0 := hB4.b b3_0
 have b4_1 := hB4.b b3_1
 have b4_2 := hB4.b b3_2
 have b4_3 := hB4.b b3_3
 have b4_4 := hB4.b nb3
 have q20' := (q17'.below hB4.below)
 have q21' := (q18'.below hB4.below)
 have q22' := (q19'.below hB4.below)
 refine hK3 _ _ ?_
 have k4_3 := kt hg4 3 k2_3
 have k4_4 := kt hg4 4 k2_4
 have k4_5 := kt hg4 5 k2_5
 have k4_6 := kt hg4 6 k2_6
 have k4_8 := kt hg4 8 k2_8
 have k4_9 := kt hg4 9 k2_9
 have k4_10 := kt hg4 10 k2_10
 have k4_11 := kt hg4 11 k2_11
 have k4_12 := kt hg4 12 (hB4.is 2)
 refine wp_seq_k fun K4 hK4 => ?_
 suffices J23' : ∀ (g_ : Nat → Value) (W_ : World), (g_ 3 = .int .i64 ((k : Int)) ∧ g_ 4 = .pointer (some ⟨(s1 0), 0, none⟩) ∧ g_ 5 = .pointer (some ⟨(s1 1), 0, none⟩) ∧ g_ 6 = .pointer (some ⟨(s1 2), 0, none⟩) ∧ g_ 8 = .pointer (some ⟨(s1 3), 0, none⟩) ∧ g_ 9 = .int .i64 0 ∧ g_ 10 = .bool false ∧ g_ 11 = .pointer (some ⟨(s2 2), 0, none⟩) ∧ g_ 12 = .int .i64 (if vi.isOpen = true then 7 + (k : Int) else 5 + (k : Int)) ∧ Below w.heap.size w W_ ∧ W4.heap.size ≤ W_.heap.size ∧ W_.heap[(s1 0)]? = some (.cells #[.int .i64 b.tab, .slice (a1) (b.panels.length) (c1), .int .i64 b.height, .slice (a2) (b.top.length) (c2), .slice (a3) (b.bottom.length) (c3), .int .i64 b.slot, .bool b.isOpen] 24 (0, 0)) ∧ W_.heap[(s1 1)]? = some (.cells #[.int .i64 vi.length.1, .int .i64 vi.length.2, .int .i64 vi.width.1, .int .i64 vi.width.2, .int .i64 vi.height.1, .int .i64 vi.height.2, .int .i64 vi.outer.1, .int .i64 vi.outer.2, .int .i64 vi.inner.1, .int .i64 vi.inner.2, .bool vi.isOpen] 43 (0, 0)) ∧ W_.heap[(s1 2)]? = some (.cells #[.int .i64 lo, .int .i64 hi] 26 (0, 0)) ∧ W_.heap[(s1 3)]? = some (.cells #[.int .i64 0, .slice (none) (0) (0), .int .i64 0, .slice (none) (0) (0), .slice (none) (0) (0), .int .i64 0, .bool false] 24 (0, 0)) ∧ W_.heap[(s2 2)]? = some (.cells #[.int .i64 b.tab, .slice (some ⟨g2', 0, none⟩) (b.panels.length) (c5'), .int .i64 b.height, .slice (some ⟨g3', 0, none⟩) (b.top.length) (c6'), .slice (some ⟨g4', 0, none⟩) (b.bottom.length) (c7'), .int .i64 b.slot, .bool b.isOpen] 24 (0, 0)) ∧ OwnI w.heap.size (b.panels) g2' c5' W_ ∧ OwnI w.heap.size (b.top) g3' c6' W_ ∧ OwnI w.heap.size (b.bottom) g4' c7' W_) → K4 (fr 50 g_) W_ by
  refine wp_seq_k fun K5 hK5 => ?_
  refine region_dk 3 [(18, 0), (19, 1), (20, 2)] [[], [0], [0, 1]] (rel [is (.pointer (some ⟨(s1 1), 10, none⟩)),
   is (.bool vi.isOpen),
   is (.bool (!(vi.isOpen)))])
   ⟨is_k, is_k, is_k, trivial⟩
   ⟨fun f s W j l m q r a => opv rfl rfl (by simp [go_sem, a.e 5 k4_5]) rfl,
  fun f s W j l m q r a => opv rfl rfl (by simp [go_sem, a.e 18 (l 0 rfl), cb b4_1 j 10]) rfl,
  fun f s W j l m q r a => opv rfl rfl (by simp [go_sem, a.e 19 (l 1 rfl)]) rfl, trivial⟩ ?_
  intro f5 s5 W5 hB5 g5 hg5
  have fB5 := hB5.f fB4
  have z5 := hB5.below.size
  have b5_0 := hB5.b b4_0
  have b5_1 := hB5.b b4_1
  have b5_2 := hB5.b b4_2
  have b5_3 := hB5.b b4_3
  have b5_4 := hB5.b b4_4
  have q24' := (q20'.below hB5.below)
  have q25' := (q21'.below hB5.below)
  have q26' := (q22'.below hB5.below)
  refine hK5 _ _ ?_
  have k5_3 := kt hg5 3 k4_3
  have k5_4 := kt hg5 4 k4_4
  have k5_5 := kt hg5 5 k4_5
  have k5_6 := kt hg5 6 k4_6
  have k5_8 := kt hg5 8 k4_8
  have k5_9 := kt hg5 9 k4_9
  have k5_10 := kt hg5 10 k4_10
  have k5_11 := kt hg5 11 k4_11
  have k5_12 := kt hg5 12 k4_12
  have k5_20 := kt hg5 20 (hB5.is 2)
  refine wp_cond_split (t := !(vi.isOpen)) ((fr_eval rfl).trans k5_20) (fun hc6 => ?_) (fun hc6 => ?_)
  ·
   have hc6' := hc6; try simp only [ba] at hc6'
   refine region_dk 3 [(21, 0), (22, 1), (12, 2)] [[], [0], [0, 1]] (rel [is (.int .i64 ((k : Int))),
   is (.int .i64 (5 + (k : Int))),
   is (.int .i64 (5 + (k : Int)))])
    ⟨is_k, is_k, is_k, trivial⟩
    ⟨fun f s W j l m q r a => opv rfl rfl (by simp [go_sem, a.e 3 k5_3]) rfl,
  fun f s W j l m q r a => opv rfl rfl (by simp [go_sem, a.e 21 (l 0 rfl), IntWalk.i64_in (5 + (k : Int)) (by omega)]) rfl,
  fun f s W j l m q r a => opv rfl rfl (by simp [go_sem, a.e 22 (l 1 rfl)]) rfl, trivial⟩ ?_
   intro f6 s6 W6 hB6 g6 hg6
   have fB6 := hB6.f fB5
   have z6 := hB6.below.size
   have b6_0 := hB6.b b5_0
   have b6_1 := hB6.b b5_1
   have b6_2 := hB6.b b5_2
   have b6_3 := hB6.b b5_3
   have b6_4 := hB6.b b5_4
   have q27' := (q24'.below hB6.below)
   have q28' := (q25'.below hB6.below)
   have q29' := (q26'.below hB6.below)
   refine wpOps_end ?_
   have k6_3 := kt hg6 3 k5_3
   have k6_4 := kt hg6 4 k5_4
   have k6_5 := kt hg6 5 k5_5
   have k6_6 := kt hg6 6 k5_6
   have k6_8 := kt hg6 8 k5_8
   have k6_9 := kt hg6 9 k5_9
   have k6_10 := kt hg6 10 k5_10
   have k6_11 := kt hg6 11 k5_11
   have k6_12 := kt hg6 12 (hB6.is 2)
   exact J23' _ _ ⟨k6_3, k6_4, k6_5, k6_6, k6_8, k6_9, k6_10, k6_11, k6_12.trans (by rw [if_neg (by simpa using hc6)]), fB6, (by omega), b6_0, b6_1, b6_2, b6_3, b6_4, q27', q28', q29'⟩
  ·
   have hc6' := hc6; try simp only [ba] at hc6'
   refine wp_skip ?_
   exact J23' _ _ ⟨k5_3, k5_4, k5_5, k5_6, k5_8, k5_9, k5_10, k5_11, k5_12.trans (by rw [if_pos (by simpa using hc6)]), fB5, (by omega), b5_0, b5_1, b5_2, b5_3, b5_4, q24', q25', q26'⟩
 rintro g_30 W_30 ⟨k_30_3, k_30_4, k_30_5, k_30_6, k_30_8, k_30_9, k_30_10, k_30_11, k_30_12, fB_30, z_30, b_30_0, b_30_1, b_30_2, b_30_3, b_30_4, q31', q32', q33'⟩
 refine hK4 _ _ ?_
 refine wp_seq_k fun K7 hK7 => ?_
 refine wp_seq_k fun K8 hK8 => ?_
 refine region_dk 1 [(13, 0)] [[]] (rel [is (.int .i64 0)])
  ⟨is_k, trivial⟩
  ⟨fun f s W j l m q r a => opv rfl rfl (by simp [go_sem]) rfl, trivial⟩ ?_
 intro f7 s7 W7 hB7 g7 hg7
 have fB7 := hB7.f fB_30
 have z7 := hB7.below.size
 have b7_0 := hB7.b b_30_0
 have b7_1 := hB7.b b_30_1
 have b7_2 := hB7.b b_30_2
 have b7_3 := hB7.b b_30_3
 have b7_4 := hB7.b b_30_4
 have q34' := (q31'.below hB7.below)
 have q35' := (q32'.below hB7.below)
 have q36' := (q33'.below hB7.below)
 refine hK8 _ _ ?_
 have k7_3 := kt hg7 3 k_30_3
 have k7_4 := kt hg7 4 k_30_4
 have k7_5 := kt hg7 5 k_30_5
 have k7_6 := kt hg7 6 k_30_6
 have k7_8 := kt hg7 8 k_30_8
 have k7_9 := kt hg7 9 k_30_9
 have k7_10 := kt hg7 10 k_30_10
 have k7_11 := kt hg7 11 k_30_11
 have k7_12 := kt hg7 12 k_30_12
 have k7_13 := kt hg7 13 (hB7.is 0)
 refine wp_block ?_
 refine wp_loop_n (fun m_ a_ W_ => ∃ g_ : Nat → Value, a_ = fr 50 g_ ∧ (∃ ff : Int, ∃ z : Int, m_ = (3001 - ff).toNat ∧ g_ 3 = .int .i64 ((k : Int)) ∧ g_ 4 = .pointer (some ⟨(s1 0), 0, none⟩) ∧ g_ 5 = .pointer (some ⟨(s1 1), 0, none⟩) ∧ g_ 6 = .pointer (some ⟨(s1 2), 0, none⟩) ∧ g_ 8 = .pointer (some ⟨(s1 3), 0, none⟩) ∧ g_ 9 = .int .i64 0 ∧ g_ 10 = .bool false ∧ g_ 11 = .pointer (some ⟨(s2 2), 0, none⟩) ∧ g_ 12 = .int .i64 (if vi.isOpen = true then 7 + (k : Int) else 5 + (k : Int)) ∧ g_ 13 = .int .i64 ff ∧ Below w.heap.size w W_ ∧ W7.heap.size ≤ W_.heap.size ∧ W_.heap[(s1 0)]? = some (.cells #[.int .i64 b.tab, .slice (a1) (b.panels.length) (c1), .int .i64 b.height, .slice (a2) (b.top.length) (c2), .slice (a3) (b.bottom.length) (c3), .int .i64 b.slot, .bool b.isOpen] 24 (0, 0)) ∧ W_.heap[(s1 1)]? = some (.cells #[.int .i64 vi.length.1, .int .i64 vi.length.2, .int .i64 vi.width.1, .int .i64 vi.width.2, .int .i64 vi.height.1, .int .i64 vi.height.2, .int .i64 vi.outer.1, .int .i64 vi.outer.2, .int .i64 vi.inner.1, .int .i64 vi.inner.2, .bool vi.isOpen] 43 (0, 0)) ∧ W_.heap[(s1 2)]? = some (.cells #[.int .i64 lo, .int .i64 hi] 26 (0, 0)) ∧ W_.heap[(s1 3)]? = some (.cells #[.int .i64 0, .slice (none) (0) (0), .int .i64 0, .slice (none) (0) (0), .slice (none) (0) (0), .int .i64 0, .bool false] 24 (0, 0)) ∧ W_.heap[(s2 2)]? = some (.cells #[.int .i64 b.tab, .slice (some ⟨g2', 0, none⟩) (b.panels.length) (c5'), .int .i64 b.height, .slice (some ⟨g3', 0, none⟩) (b.top.length) (c6'), .slice (some ⟨g4', 0, none⟩) (b.bottom.length) (c7'), .int .i64 b.slot, .bool b.isOpen] 24 (0, 0)) ∧ OwnI w.heap.size (b.panels) g2' c5' W_ ∧ OwnI w.heap.size (b.top) g3' c6' W_ ∧ OwnI w.heap.size (b.bottom.set k z) g4' c7' W_ ∧ (0 ≤ ff) ∧ (ff ≤ 3001) ∧ (∀ d, 0 ≤ d → d < ff → alwR (setB b k d) vi (lo, hi) (7 + k) = false))) ⟨_, g7, rfl, 0, (b.bottom.getD k 0), rfl, k7_3, k7_4, k7_5, k7_6, k7_8, k7_9, k7_10, k7_11, k7_12, k7_13.trans (by rfl), fB7, Nat.le_refl _, b7_0, b7_1, b7_2, b7_3, b7_4, q34', q35', (by rw [set_self]; exact q36'), (by omega), (by omega), (fun d h1 h2 => absurd h2 (by omega))⟩ ?_
 rintro _ _ W_37 ⟨g_37, rfl, ff, z, rfl, k_37_3, k_37_4, k_37_5, k_37_6, k_37_8, k_37_9, k_37_10, k_37_11, k_37_12, k_37_13, fB_37, z_37, b_37_0, b_37_1, b_37_2, b_37_3, b_37_4, q38', q39', q40', lp0, lp1, lp2⟩
 refine wp_seq_k fun K9 hK9 => ?_
 refine wp_seq_k fun K10 hK10 => ?_
 refine region_dk 2 [(23, 0), (24, 1)] [[], [0]] (rel [is (.int .i64 ff),
   is (.bool (decide (ff ≤ 3000)))])
  ⟨is_k, is_k, trivial⟩
  ⟨fun f s W j l m q r a => opv rfl rfl (by simp [go_sem, a.e 13 k_37_13]) rfl,
  fun f s W j l m q r a => opv rfl rfl (by simp [go_sem, a.e 23 (l 0 rfl)]) rfl, trivial⟩ ?_
 intro f8 s8 W8 hB8 g8 hg8
 have fB8 := hB8.f fB_37
 have z8 := hB8.below.size
 have b8_0 := hB8.b b_37_0
 have b8_1 := hB8.b b_37_1
 have b8_2 := hB8.b b_37_2
 have b8_3 := hB8.b b_37_3
 have b8_4 := hB8.b b_37_4
 have q41' := (q38'.below hB8.below)
 have q42' := (q39'.below hB8.below)
 have q43' := (q40'.below hB8.below)
 refine hK10 _ _ ?_
 have k8_3 := kt hg8 3 k_37_3
 have k8_4 := kt hg8 4 k_37_4
 have k8_5 := kt hg8 5 k_37_5
 have k8_6 := kt hg8 6 k_37_6
 have k8_8 := kt hg8 8 k_37_8
 have k8_9 := kt hg8 9 k_37_9
 have k8_10 := kt hg8 10 k_37_10
 have k8_11 := kt hg8 11 k_37_11
 have k8_12 := kt hg8 12 k_37_12
 have k8_13 := kt hg8 13 k_37_13
 have k8_24 := kt hg8 24 (hB8.is 1)
 refine wp_cond_split (t := decide (ff ≤ 3000)) ((fr_eval rfl).trans k8_24) (fun hc11 => ?_) (fun hc11 => ?_)
 ·
  have hc11' := hc11; try simp only [ba] at hc11'
  refine wp_skip ?_
  refine hK9 _ _ ?_
  refine wp_seq_k fun K12 hK12 => ?_
  refine wp_block ?_
  refine wp_seq_k fun K13 hK13 => ?_
  refine region_dk 5 [(27, 0), (28, 1), (29, 2), (30, 3), (31, 4)] [[], [0], [], [], [0, 1, 2, 3], [0, 1, 2, 3, 4]] (rel [is (.pointer (some ⟨(s2 2), 4, none⟩)),
   is (.slice (some ⟨g4', 0, none⟩) (b.bottom.length) (c7')),
   is (.int .i64 ((k : Int))),
   is (.int .i64 ff),
   is (.pointer (some ⟨g4', k, none⟩))])
   ⟨is_k, is_k, is_k, is_k, is_k, trivial⟩
   ⟨fun f s W j l m q r a => opv rfl rfl (by simp [go_sem, a.e 11 k8_11]) rfl,
  fun f s W j l m q r a => opv rfl rfl (by simp [go_sem, a.e 27 (l 0 rfl), cb b8_4 j 4]) rfl,
  fun f s W j l m q r a => opv rfl rfl (by simp [go_sem, a.e 3 k8_3]) rfl,
  fun f s W j l m q r a => opv rfl rfl (by simp [go_sem, a.e 13 k8_13]) rfl,
  fun f s W j l m q r a => opv rfl rfl (by simp [go_sem, a.e 28 (l 1 rfl), a.e 29 (l 2 rfl), likb]) rfl, trivial⟩ ?_
  intro f9 s9 W9 hB9 g9 hg9
  have fB9 := hB9.f fB8
  have z9 := hB9.below.size
  have b9_0 := hB9.b b8_0
  have b9_1 := hB9.b b8_1
  have b9_2 := hB9.b b8_2
  have b9_3 := hB9.b b8_3
  have b9_4 := hB9.b b8_4
  have q44' := (q41'.below hB9.below)
  have q45' := (q42'.below hB9.below)
  have q46' := (q43'.below hB9.below)
  have k9_3 := kt hg9 3 k8_3
  have k9_4 := kt hg9 4 k8_4
  have k9_5 := kt hg9 5 k8_5
  have k9_6 := kt hg9 6 k8_6
  have k9_8 := kt hg9 8 k8_8
  have k9_9 := kt hg9 9 k8_9
  have k9_10 := kt hg9 10 k8_10
  have k9_11 := kt hg9 11 k8_11
  have k9_12 := kt hg9 12 k8_12
  have k9_13 := kt hg9 13 k8_13
  have k9_30 := kt hg9 30 (hB9.is 3)
  have k9_31 := kt hg9 31 (hB9.is 4)
  obtain ⟨W10, st10, ow10, ot10, z10, fB10⟩ := storeI_tail (c := c7') (i := k) (x := ff) (b.bottom.set k ff) (by first | omega | (simp; omega)) (List.set_set ..) fB9 q46'
  refine tail_skip (o := _) rfl ⟨rfl, rfl⟩ (st10 (fr_ev k9_31) (fr_ev k9_30)) ?_
  have b10_0 := ot10 _ _ (by omega) b9_0
  have b10_1 := ot10 _ _ (by omega) b9_1
  have b10_2 := ot10 _ _ (by omega) b9_2
  have b10_3 := ot10 _ _ (by omega) b9_3
  have b10_4 := ot10 _ _ (by omega) b9_4
  have q47' := q44'.other ot10 (by omega) z10
  have q48' := q45'.other ot10 (by omega) z10
  refine wpOps_end ?_
  refine hK13 _ _ ?_
  refine wp_seq_k fun K14 hK14 => ?_
  refine region_dk 7 [(32, 0), (33, 1), (34, 2), (35, 3), (36, 4), (37, 5), (38, 6)] [[], [], [], [], [3], [3, 4], [0, 1, 2, 3, 4, 5]] (rel [is (.agg #[.int .i64 b.tab, .slice (some ⟨g2', 0, none⟩) (b.panels.length) (c5'), .int .i64 b.height, .slice (some ⟨g3', 0, none⟩) (b.top.length) (c6'), .slice (some ⟨g4', 0, none⟩) (b.bottom.length) (c7'), .int .i64 b.slot, .bool b.isOpen]),
   is (.agg #[.int .i64 vi.length.1, .int .i64 vi.length.2, .int .i64 vi.width.1, .int .i64 vi.width.2, .int .i64 vi.height.1, .int .i64 vi.height.2, .int .i64 vi.outer.1, .int .i64 vi.outer.2, .int .i64 vi.inner.1, .int .i64 vi.inner.2, .bool vi.isOpen]),
   is (.agg #[.int .i64 lo, .int .i64 hi]),
   is (.int .i64 ((k : Int))),
   is (.int .i64 (7 + (k : Int))),
   row 5 1 #[.int .i64 (7 + (k : Int))] 3,
   is (.bool (alwR (setB b k ff) vi (lo, hi) (7 + k)))])
   ⟨is_k, is_k, is_k, is_k, is_k, row_k, is_k, trivial⟩
   ⟨fun f s W j l m q r a => opv rfl rfl (by simp [go_sem, a.e 11 k9_11, cb b10_4 j 0, cb b10_4 j 1, cb b10_4 j 2, cb b10_4 j 3, cb b10_4 j 4, cb b10_4 j 5, cb b10_4 j 6]) rfl,
  fun f s W j l m q r a => opv rfl rfl (by simp [go_sem, a.e 5 k9_5, cb b10_1 j 0, cb b10_1 j 1, cb b10_1 j 2, cb b10_1 j 3, cb b10_1 j 4, cb b10_1 j 5, cb b10_1 j 6, cb b10_1 j 7, cb b10_1 j 8, cb b10_1 j 9, cb b10_1 j 10]) rfl,
  fun f s W j l m q r a => opv rfl rfl (by simp [go_sem, a.e 6 k9_6, cb b10_2 j 0, cb b10_2 j 1]) rfl,
  fun f s W j l m q r a => opv rfl rfl (by simp [go_sem, a.e 3 k9_3]) rfl,
  fun f s W j l m q r a => opv rfl rfl (by simp [go_sem, a.e 35 (l 3 rfl), IntWalk.i64_in (7 + (k : Int)) (by omega)]) rfl,
  fun f s W j l m q r a => opr rfl rfl (by simp [go_sem, a.e 36 (l 4 rfl)]),
  fun f s W j l m q r a => opc (args := #[.agg #[.int .i64 b.tab, .slice (some ⟨g2', 0, none⟩) (b.panels.length) (c5'), .int .i64 b.height, .slice (some ⟨g3', 0, none⟩) (b.top.length) (c6'), .slice (some ⟨g4', 0, none⟩) (b.bottom.length) (c7'), .int .i64 b.slot, .bool b.isOpen], .agg #[.int .i64 vi.length.1, .int .i64 vi.length.2, .int .i64 vi.width.1, .int .i64 vi.width.2, .int .i64 vi.height.1, .int .i64 vi.height.2, .int .i64 vi.outer.1, .int .i64 vi.outer.2, .int .i64 vi.inner.1, .int .i64 vi.inner.2, .bool vi.isOpen], .agg #[.int .i64 lo, .int .i64 hi], .slice (some ⟨(s 5), 0, none⟩) (1) (1)]) rfl rfl (by simp [go_sem, a.e 32 (l 0 rfl), a.e 33 (l 1 rfl), a.e 34 (l 2 rfl), a.e 37 (l 5 rfl).1]) (always_blk (b := setB b k ff) vi (7 + k) (7 + (k : Int)) lo hi _ _ W ⟨_, _, _, _, _, _, _, _, _, rfl, (OwnI.iin (n := b.panels.length) ((q47'.below j)) rfl), (OwnI.iin (n := b.top.length) ((q48'.below j)) rfl), (OwnI.iin (n := b.bottom.length) ((ow10.below j)) (List.length_set ..))⟩ (ii_block (xs := [7 + (k : Int)]) (l 5 rfl).2 rfl rfl) (setB_ok hck hk (by omega) (by omega)) hw (by omega) (by omega) gl glh gh), trivial⟩ ?_
  intro f11 s11 W11 hB11 g11 hg11
  have fB11 := hB11.f fB10
  have z11 := hB11.below.size
  have b11_0 := hB11.b b10_0
  have b11_1 := hB11.b b10_1
  have b11_2 := hB11.b b10_2
  have b11_3 := hB11.b b10_3
  have b11_4 := hB11.b b10_4
  have q49' := (q47'.below hB11.below)
  have q50' := (q48'.below hB11.below)
  have q51' := (ow10.below hB11.below)
  obtain ⟨r11_5, br11_5⟩ := hB11.is 5
  have lr11_5 := hB11.lr 5 br11_5
  refine hK14 _ _ ?_
  have k11_3 := kt hg11 3 k9_3
  have k11_4 := kt hg11 4 k9_4
  have k11_5 := kt hg11 5 k9_5
  have k11_6 := kt hg11 6 k9_6
  have k11_8 := kt hg11 8 k9_8
  have k11_9 := kt hg11 9 k9_9
  have k11_10 := kt hg11 10 k9_10
  have k11_11 := kt hg11 11 k9_11
  have k11_12 := kt hg11 12 k9_12
  have k11_13 := kt hg11 13 k9_13
  have k11_38 := kt hg11 38 (hB11.is 6)
  refine wp_cond_split (t := alwR (setB b k ff) vi (lo, hi) (7 + k)) ((fr_eval rfl).trans k11_38) (fun hc15 => ?_) (fun hc15 => ?_)
  ·
   have hc15' := hc15; try simp only [ba] at hc15'
   refine wp_seq_k fun K16 hK16 => ?_
   refine wp_seq_k fun K17 hK17 => ?_
   refine region_dk 3 [(39, 0), (40, 1), (41, 2)] [[], [0], [0, 1]] (rel [is (.pointer (some ⟨(s1 1), 10, none⟩)),
   is (.bool vi.isOpen),
   is (.bool (!(vi.isOpen)))])
    ⟨is_k, is_k, is_k, trivial⟩
    ⟨fun f s W j l m q r a => opv rfl rfl (by simp [go_sem, a.e 5 k11_5]) rfl,
  fun f s W j l m q r a => opv rfl rfl (by simp [go_sem, a.e 39 (l 0 rfl), cb b11_1 j 10]) rfl,
  fun f s W j l m q r a => opv rfl rfl (by simp [go_sem, a.e 40 (l 1 rfl)]) rfl, trivial⟩ ?_
   intro f12 s12 W12 hB12 g12 hg12
   have fB12 := hB12.f fB11
   have z12 := hB12.below.size
   have b12_0 := hB12.b b11_0
   have b12_1 := hB12.b b11_1
   have b12_2 := hB12.b b11_2
   have b12_3 := hB12.b b11_3
   have b12_4 := hB12.b b11_4
   have b12_5 := hB12.b br11_5
   have q52' := (q49'.below hB12.below)
   have q53' := (q50'.below hB12.below)
   have q54' := (q51'.below hB12.below)
   refine hK17 _ _ ?_
   have k12_3 := kt hg12 3 k11_3
   have k12_4 := kt hg12 4 k11_4
   have k12_5 := kt hg12 5 k11_5
   have k12_6 := kt hg12 6 k11_6
   have k12_8 := kt hg12 8 k11_8
   have k12_9 := kt hg12 9 k11_9
   have k12_10 := kt hg12 10 k11_10
   have k12_11 := kt hg12 11 k11_11
   have k12_12 := kt hg12 12 k11_12
   have k12_13 := kt hg12 13 k11_13
   have k12_41 := kt hg12 41 (hB12.is 2)
   refine wp_cond_split (t := !(vi.isOpen)) ((fr_eval rfl).trans k12_41) (fun hc18 => ?_) (fun hc18 => ?_)
   ·
    have hc18' := hc18; try simp only [ba] at hc18'
    refine region_dk 5 [(42, 0), (43, 1), (44, 2), (45, 3), (46, 4)] [[], [0], [], [], [0, 1, 2, 3], [0, 1, 2, 3, 4]] (rel [is (.pointer (some ⟨(s2 2), 3, none⟩)),
   is (.slice (some ⟨g3', 0, none⟩) (b.top.length) (c6')),
   is (.int .i64 ((k : Int))),
   is (.int .i64 ff),
   is (.pointer (some ⟨g3', k, none⟩))])
     ⟨is_k, is_k, is_k, is_k, is_k, trivial⟩
     ⟨fun f s W j l m q r a => opv rfl rfl (by simp [go_sem, a.e 11 k12_11]) rfl,
  fun f s W j l m q r a => opv rfl rfl (by simp [go_sem, a.e 42 (l 0 rfl), cb b12_4 j 3]) rfl,
  fun f s W j l m q r a => opv rfl rfl (by simp [go_sem, a.e 3 k12_3]) rfl,
  fun f s W j l m q r a => opv rfl rfl (by simp [go_sem, a.e 13 k12_13]) rfl,
  fun f s W j l m q r a => opv rfl rfl (by simp [go_sem, a.e 43 (l 1 rfl), a.e 44 (l 2 rfl), likt]) rfl, trivial⟩ ?_
    intro f13 s13 W13 hB13 g13 hg13
    have fB13 := hB13.f fB12
    have z13 := hB13.below.size
    have b13_0 := hB13.b b12_0
    have b13_1 := hB13.b b12_1
    have b13_2 := hB13.b b12_2
    have b13_3 := hB13.b b12_3
    have b13_4 := hB13.b b12_4
    have b13_5 := hB13.b b12_5
    have q55' := (q52'.below hB13.below)
    have q56' := (q53'.below hB13.below)
    have q57' := (q54'.below hB13.below)
    have k13_3 := kt hg13 3 k12_3
    have k13_4 := kt hg13 4 k12_4
    have k13_5 := kt hg13 5 k12_5
    have k13_6 := kt hg13 6 k12_6
    have k13_8 := kt hg13 8 k12_8
    have k13_9 := kt hg13 9 k12_9
    have k13_10 := kt hg13 10 k12_10
    have k13_11 := kt hg13 11 k12_11
    have k13_12 := kt hg13 12 k12_12
    have k13_13 := kt hg13 13 k12_13
    have k13_45 := kt hg13 45 (hB13.is 3)
    have k13_46 := kt hg13 46 (hB13.is 4)
    obtain ⟨W14, st14, ow14, ot14, z14, fB14⟩ := storeI_tail (c := c6') (i := k) (x := ff) ((b.top).set k ff) (by first | omega | (simp; omega)) rfl fB13 q56'
    refine tail_skip (o := _) rfl ⟨rfl, rfl⟩ (st14 (fr_ev k13_46) (fr_ev k13_45)) ?_
    have b14_0 := ot14 _ _ (by omega) b13_0
    have b14_1 := ot14 _ _ (by omega) b13_1
    have b14_2 := ot14 _ _ (by omega) b13_2
    have b14_3 := ot14 _ _ (by omega) b13_3
    have b14_4 := ot14 _ _ (by omega) b13_4
    have b14_5 := ot14 _ _ (by omega) b13_5
    have q58' := q55'.other ot14 (by omega) z14
    have q59' := q57'.other ot14 (by omega) z14
    refine wpOps_end ?_
    refine hK16 _ _ ?_
    refine wp_seq_k fun K19 hK19 => ?_
    refine region_dk 1 [(47, 0), (9, 2), (10, 3)] [[], [0], [0, 1], [0, 1, 2]] (rel [is (.agg #[.int .i64 b.tab, .slice (some ⟨g2', 0, none⟩) (b.panels.length) (c5'), .int .i64 b.height, .slice (some ⟨g3', 0, none⟩) (b.top.length) (c6'), .slice (some ⟨g4', 0, none⟩) (b.bottom.length) (c7'), .int .i64 b.slot, .bool b.isOpen])])
     ⟨is_k, trivial⟩
     ⟨fun f s W j l m q r a => opv rfl rfl (by simp [go_sem, a.e 11 k13_11, cb b14_4 j 0, cb b14_4 j 1, cb b14_4 j 2, cb b14_4 j 3, cb b14_4 j 4, cb b14_4 j 5, cb b14_4 j 6]) rfl, trivial⟩ ?_
    intro f15 s15 W15 hB15 g15 hg15
    have fB15 := hB15.f fB14
    have z15 := hB15.below.size
    have b15_0 := hB15.b b14_0
    have b15_1 := hB15.b b14_1
    have b15_2 := hB15.b b14_2
    have b15_3 := hB15.b b14_3
    have b15_4 := hB15.b b14_4
    have b15_5 := hB15.b b14_5
    have q60' := (q58'.below hB15.below)
    have q61' := (q59'.below hB15.below)
    have q62' := (ow14.below hB15.below)
    have k15_3 := kt hg15 3 k13_3
    have k15_4 := kt hg15 4 k13_4
    have k15_5 := kt hg15 5 k13_5
    have k15_6 := kt hg15 6 k13_6
    have k15_8 := kt hg15 8 k13_8
    have k15_11 := kt hg15 11 k13_11
    have k15_12 := kt hg15 12 k13_12
    have k15_13 := kt hg15 13 k13_13
    have k15_47 := kt hg15 47 (hB15.is 0)
    obtain ⟨W16, hW16⟩ : ∃ W', W' = W15.setRow (s1 3) #[.int .i64 b.tab, .slice (some ⟨g2', 0, none⟩) (b.panels.length) (c5'), .int .i64 b.height, .slice (some ⟨g3', 0, none⟩) (b.top.length) (c6'), .slice (some ⟨g4', 0, none⟩) (b.bottom.length) (c7'), .int .i64 b.slot, .bool b.isOpen] := ⟨_, rfl⟩
    refine tail_skip (o := _) rfl ⟨rfl, rfl⟩ (run_seg hW16 (fr_ev k15_8) (fr_ev k15_47) b15_3 rfl rfl rfl rfl) ?_
    obtain ⟨fB16, nb16, ot16, z16⟩ := seg_facts hW16 fB15 b15_3 (by omega)
    clear hW16
    have b16_0 := ot16 _ _ (by omega) b15_0
    have b16_1 := ot16 _ _ (by omega) b15_1
    have b16_2 := ot16 _ _ (by omega) b15_2
    have b16_4 := ot16 _ _ (by omega) b15_4
    have b16_5 := ot16 _ _ (by omega) b15_5
    have q63' := q60'.other ot16 (by omega) z16
    have q64' := q61'.other ot16 (by omega) z16
    have q65' := q62'.other ot16 (by omega) z16
    refine tail_value (o := _) rfl rfl rfl (v := .int .i64 0) (by simp [go_sem]) ?_
    generalize hg17 : upd g15 9 (.int .i64 0) = g17
    have k17_3 := ku hg17 3 k15_3
    have k17_4 := ku hg17 4 k15_4
    have k17_5 := ku hg17 5 k15_5
    have k17_6 := ku hg17 6 k15_6
    have k17_8 := ku hg17 8 k15_8
    have k17_11 := ku hg17 11 k15_11
    have k17_12 := ku hg17 12 k15_12
    have k17_13 := ku hg17 13 k15_13
    have k17_9 := kt hg17 9 (upd_same _ _ _)
    refine tail_value (o := _) rfl rfl rfl (v := .bool true) (by simp [go_sem]) ?_
    generalize hg18 : upd g17 10 (.bool true) = g18
    have k18_3 := ku hg18 3 k17_3
    have k18_4 := ku hg18 4 k17_4
    have k18_5 := ku hg18 5 k17_5
    have k18_6 := ku hg18 6 k17_6
    have k18_8 := ku hg18 8 k17_8
    have k18_11 := ku hg18 11 k17_11
    have k18_12 := ku hg18 12 k17_12
    have k18_13 := ku hg18 13 k17_13
    have k18_9 := ku hg18 9 k17_9
    have k18_10 := kt hg18 10 (upd_same _ _ _)
    refine wpOps_end ?_
    refine hK19 _ _ ?_
    refine wp_ret ?_
    refine inBlock_ret (then_ret (then_ret (inBlock_ret (then_ret ?_))))
    refine leave_gen (v := .tuple #[.agg #[.int .i64 b.tab, .slice (some ⟨g2', 0, none⟩) (b.panels.length) (c5'), .int .i64 b.height, .slice (some ⟨g3', 0, none⟩) (b.top.length) (c6'), .slice (some ⟨g4', 0, none⟩) (b.bottom.length) (c7'), .int .i64 b.slot, .bool b.isOpen], .int .i64 0, .bool true]) (.inr rfl) (by simp [results, Tryz.results69, go_sem, frv 50 k18_8, cl nb16 0, cl nb16 1, cl nb16 2, cl nb16 3, cl nb16 4, cl nb16 5, cl nb16 6, frv 50 k18_9, frv 50 k18_10]) ?_
    have hq := firstT_some (p := fun f => alwR (setB b k f) vi (lo, hi) (7 + k)) hc15 3001 0 lp2 lp0 (by omega)
    have ho : vi.isOpen = false := by simpa using hc18
    exact ⟨fun f0 h0 => (by rw [show flapQ b vi (lo, hi) k = some ff from hq] at h0; obtain rfl := Option.some.inj h0; rw [ho]; exact ⟨_, rfl, ⟨_, _, _, _, _, _, by (rw [set_len1, set_len2] <;> rfl), ⟨q63'.ii, by have := q63'.lim; omega, q63'.lim.2⟩, ⟨(by rw [set_len2]; exact OwnI.iin (n := b.top.length) q65' (by first | rfl | exact List.length_set ..)), by have := q65'.lim; omega, q65'.lim.2⟩, ⟨(by rw [set_len1]; exact OwnI.iin (n := b.bottom.length) q64' (List.length_set ..)), by have := q64'.lim; omega, q64'.lim.2⟩⟩, fB16⟩), fun h0 => (by rw [show flapQ b vi (lo, hi) k = some ff from hq] at h0; cases h0)⟩
   ·
    have hc18' := hc18; try simp only [ba] at hc18'
    refine wp_skip ?_
    refine hK16 _ _ ?_
    refine wp_seq_k fun K20 hK20 => ?_
    refine region_dk 1 [(47, 0), (9, 2), (10, 3)] [[], [0], [0, 1], [0, 1, 2]] (rel [is (.agg #[.int .i64 b.tab, .slice (some ⟨g2', 0, none⟩) (b.panels.length) (c5'), .int .i64 b.height, .slice (some ⟨g3', 0, none⟩) (b.top.length) (c6'), .slice (some ⟨g4', 0, none⟩) (b.bottom.length) (c7'), .int .i64 b.slot, .bool b.isOpen])])
     ⟨is_k, trivial⟩
     ⟨fun f s W j l m q r a => opv rfl rfl (by simp [go_sem, a.e 11 k12_11, cb b12_4 j 0, cb b12_4 j 1, cb b12_4 j 2, cb b12_4 j 3, cb b12_4 j 4, cb b12_4 j 5, cb b12_4 j 6]) rfl, trivial⟩ ?_
    intro f19 s19 W19 hB19 g19 hg19
    have fB19 := hB19.f fB12
    have z19 := hB19.below.size
    have b19_0 := hB19.b b12_0
    have b19_1 := hB19.b b12_1
    have b19_2 := hB19.b b12_2
    have b19_3 := hB19.b b12_3
    have b19_4 := hB19.b b12_4
    have b19_5 := hB19.b b12_5
    have q66' := (q52'.below hB19.below)
    have q67' := (q53'.below hB19.below)
    have q68' := (q54'.below hB19.below)
    have k19_3 := kt hg19 3 k12_3
    have k19_4 := kt hg19 4 k12_4
    have k19_5 := kt hg19 5 k12_5
    have k19_6 := kt hg19 6 k12_6
    have k19_8 := kt hg19 8 k12_8
    have k19_11 := kt hg19 11 k12_11
    have k19_12 := kt hg19 12 k12_12
    have k19_13 := kt hg19 13 k12_13
    have k19_47 := kt hg19 47 (hB19.is 0)
    obtain ⟨W20, hW20⟩ : ∃ W', W' = W19.setRow (s1 3) #[.int .i64 b.tab, .slice (some ⟨g2', 0, none⟩) (b.panels.length) (c5'), .int .i64 b.height, .slice (some ⟨g3', 0, none⟩) (b.top.length) (c6'), .slice (some ⟨g4', 0, none⟩) (b.bottom.length) (c7'), .int .i64 b.slot, .bool b.isOpen] := ⟨_, rfl⟩
    refine tail_skip (o := _) rfl ⟨rfl, rfl⟩ (run_seg hW20 (fr_ev k19_8) (fr_ev k19_47) b19_3 rfl rfl rfl rfl) ?_
    obtain ⟨fB20, nb20, ot20, z20⟩ := seg_facts hW20 fB19 b19_3 (by omega)
    clear hW20
    have b20_0 := ot20 _ _ (by omega) b19_0
    have b20_1 := ot20 _ _ (by omega) b19_1
    have b20_2 := ot20 _ _ (by omega) b19_2
    have b20_4 := ot20 _ _ (by omega) b19_4
    have b20_5 := ot20 _ _ (by omega) b19_5
    have q69' := q66'.other ot20 (by omega) z20
    have q70' := q67'.other ot20 (by omega) z20
    have q71' := q68'.other ot20 (by omega) z20
    refine tail_value (o := _) rfl rfl rfl (v := .int .i64 0) (by simp [go_sem]) ?_
    generalize hg21 : upd g19 9 (.int .i64 0) = g21
    have k21_3 := ku hg21 3 k19_3
    have k21_4 := ku hg21 4 k19_4
    have k21_5 := ku hg21 5 k19_5
    have k21_6 := ku hg21 6 k19_6
    have k21_8 := ku hg21 8 k19_8
    have k21_11 := ku hg21 11 k19_11
    have k21_12 := ku hg21 12 k19_12
    have k21_13 := ku hg21 13 k19_13
    have k21_9 := kt hg21 9 (upd_same _ _ _)
    refine tail_value (o := _) rfl rfl rfl (v := .bool true) (by simp [go_sem]) ?_
    generalize hg22 : upd g21 10 (.bool true) = g22
    have k22_3 := ku hg22 3 k21_3
    have k22_4 := ku hg22 4 k21_4
    have k22_5 := ku hg22 5 k21_5
    have k22_6 := ku hg22 6 k21_6
    have k22_8 := ku hg22 8 k21_8
    have k22_11 := ku hg22 11 k21_11
    have k22_12 := ku hg22 12 k21_12
    have k22_13 := ku hg22 13 k21_13
    have k22_9 := ku hg22 9 k21_9
    have k22_10 := kt hg22 10 (upd_same _ _ _)
    refine wpOps_end ?_
    refine hK20 _ _ ?_
    refine wp_ret ?_
    refine inBlock_ret (then_ret (then_ret (inBlock_ret (then_ret ?_))))
    refine leave_gen (v := .tuple #[.agg #[.int .i64 b.tab, .slice (some ⟨g2', 0, none⟩) (b.panels.length) (c5'), .int .i64 b.height, .slice (some ⟨g3', 0, none⟩) (b.top.length) (c6'), .slice (some ⟨g4', 0, none⟩) (b.bottom.length) (c7'), .int .i64 b.slot, .bool b.isOpen], .int .i64 0, .bool true]) (.inr rfl) (by simp [results, Tryz.results69, go_sem, frv 50 k22_8, cl nb20 0, cl nb20 1, cl nb20 2, cl nb20 3, cl nb20 4, cl nb20 5, cl nb20 6, frv 50 k22_9, frv 50 k22_10]) ?_
    have hq := firstT_some (p := fun f => alwR (setB b k f) vi (lo, hi) (7 + k)) hc15 3001 0 lp2 lp0 (by omega)
    have ho : vi.isOpen = true := by simpa using hc18
    exact ⟨fun f0 h0 => (by rw [show flapQ b vi (lo, hi) k = some ff from hq] at h0; obtain rfl := Option.some.inj h0; rw [ho]; exact ⟨_, rfl, ⟨_, _, _, _, _, _, by (rw [set_len1, set_len2] <;> rfl), ⟨q69'.ii, by have := q69'.lim; omega, q69'.lim.2⟩, ⟨(by rw [set_len2]; exact OwnI.iin (n := b.top.length) q70' (by first | rfl | exact List.length_set ..)), by have := q70'.lim; omega, q70'.lim.2⟩, ⟨(by rw [set_len1]; exact OwnI.iin (n := b.bottom.length) q71' (List.length_set ..)), by have := q71'.lim; omega, q71'.lim.2⟩⟩, fB20⟩), fun h0 => (by rw [show flapQ b vi (lo, hi) k = some ff from hq] at h0; cases h0)⟩
  ·
   have hc15' := hc15; try simp only [ba] at hc15'
   refine wp_skip ?_
   refine inBlock_normal ?_
   refine hK12 _ _ ?_
   refine region_dk 3 [(25, 0), (26, 1), (13, 2)] [[], [0], [0, 1]] (rel [is (.int .i64 ff),
   is (.int .i64 (ff + 1)),
   is (.int .i64 (ff + 1))])
    ⟨is_k, is_k, is_k, trivial⟩
    ⟨fun f s W j l m q r a => opv rfl rfl (by simp [go_sem, a.e 13 ((q 2 13 rfl rfl).trans k11_13)]) rfl,
  fun f s W j l m q r a => opv rfl rfl (by simp [go_sem, a.e 25 (l 0 rfl), IntWalk.i64_in (ff + 1) (by omega)]) rfl,
  fun f s W j l m q r a => opv rfl rfl (by simp [go_sem, a.e 26 (l 1 rfl)]) rfl, trivial⟩ ?_
   intro f23 s23 W23 hB23 g23 hg23
   have fB23 := hB23.f fB11
   have z23 := hB23.below.size
   have b23_0 := hB23.b b11_0
   have b23_1 := hB23.b b11_1
   have b23_2 := hB23.b b11_2
   have b23_3 := hB23.b b11_3
   have b23_4 := hB23.b b11_4
   have b23_5 := hB23.b br11_5
   have q72' := (q49'.below hB23.below)
   have q73' := (q50'.below hB23.below)
   have q74' := (q51'.below hB23.below)
   refine wpOps_end ?_
   have k23_3 := kt hg23 3 k11_3
   have k23_4 := kt hg23 4 k11_4
   have k23_5 := kt hg23 5 k11_5
   have k23_6 := kt hg23 6 k11_6
   have k23_8 := kt hg23 8 k11_8
   have k23_9 := kt hg23 9 k11_9
   have k23_10 := kt hg23 10 k11_10
   have k23_11 := kt hg23 11 k11_11
   have k23_12 := kt hg23 12 k11_12
   have k23_13 := kt hg23 13 (hB23.is 2)
   refine then_normal ?_
   exact ⟨_, by omega, g23, rfl, ff + 1, ff, rfl, k23_3, k23_4, k23_5, k23_6, k23_8, k23_9, k23_10, k23_11, k23_12, k23_13.trans (by go_num), fB23, (by omega), b23_0, b23_1, b23_2, b23_3, b23_4, q72', q73', q74', (by omega), (by omega), (no_step2 lp2 hc15)⟩
 ·
  have hc11' := hc11; try simp only [ba] at hc11'
  refine wp_exit ?_
  refine then_exit ?_
  refine then_exit ?_
  refine inBlock_at ?_
  refine hK7 _ _ ?_
  refine wp_seq_k fun K21 hK21 => ?_
  refine region_dk 2 [(48, 0), (49, 1), (9, 3), (10, 4)] [[], [], [0], [0, 1, 2], [0, 1, 2, 3]] (rel [is (.agg #[.int .i64 b.tab, .slice (a1) (b.panels.length) (c1), .int .i64 b.height, .slice (a2) (b.top.length) (c2), .slice (a3) (b.bottom.length) (c3), .int .i64 b.slot, .bool b.isOpen]),
   is (.int .i64 (if vi.isOpen = true then 7 + (k : Int) else 5 + (k : Int)))])
   ⟨is_k, is_k, trivial⟩
   ⟨fun f s W j l m q r a => opv rfl rfl (by simp [go_sem, a.e 4 k8_4, cb b8_0 j 0, cb b8_0 j 1, cb b8_0 j 2, cb b8_0 j 3, cb b8_0 j 4, cb b8_0 j 5, cb b8_0 j 6]) rfl,
  fun f s W j l m q r a => opv rfl rfl (by simp [go_sem, a.e 12 k8_12]) rfl, trivial⟩ ?_
  intro f24 s24 W24 hB24 g24 hg24
  have fB24 := hB24.f fB8
  have z24 := hB24.below.size
  have b24_0 := hB24.b b8_0
  have b24_1 := hB24.b b8_1
  have b24_2 := hB24.b b8_2
  have b24_3 := hB24.b b8_3
  have b24_4 := hB24.b b8_4
  have q75' := (q41'.below hB24.below)
  have q76' := (q42'.below hB24.below)
  have q77' := (q43'.below hB24.below)
  have k24_8 := kt hg24 8 k8_8
  have k24_48 := kt hg24 48 (hB24.is 0)
  have k24_49 := kt hg24 49 (hB24.is 1)
  obtain ⟨W25, hW25⟩ : ∃ W', W' = W24.setRow (s1 3) #[.int .i64 b.tab, .slice (a1) (b.panels.length) (c1), .int .i64 b.height, .slice (a2) (b.top.length) (c2), .slice (a3) (b.bottom.length) (c3), .int .i64 b.slot, .bool b.isOpen] := ⟨_, rfl⟩
  refine tail_skip (o := _) rfl ⟨rfl, rfl⟩ (run_seg hW25 (fr_ev k24_8) (fr_ev k24_48) b24_3 rfl rfl rfl rfl) ?_
  obtain ⟨fB25, nb25, ot25, z25⟩ := seg_facts hW25 fB24 b24_3 (by omega)
  clear hW25
  have b25_0 := ot25 _ _ (by omega) b24_0
  have b25_1 := ot25 _ _ (by omega) b24_1
  have b25_2 := ot25 _ _ (by omega) b24_2
  have b25_4 := ot25 _ _ (by omega) b24_4
  have q78' := q75'.other ot25 (by omega) z25
  have q79' := q76'.other ot25 (by omega) z25
  have q80' := q77'.other ot25 (by omega) z25
  refine tail_value (o := _) rfl rfl rfl (v := .int .i64 (if vi.isOpen = true then 7 + (k : Int) else 5 + (k : Int))) (by simp [go_sem, frv 50 k24_49]) ?_
  generalize hg26 : upd g24 9 (.int .i64 (if vi.isOpen = true then 7 + (k : Int) else 5 + (k : Int))) = g26
  have k26_8 := ku hg26 8 k24_8
  have k26_9 := kt hg26 9 (upd_same _ _ _)
  refine tail_value (o := _) rfl rfl rfl (v := .bool false) (by simp [go_sem]) ?_
  generalize hg27 : upd g26 10 (.bool false) = g27
  have k27_8 := ku hg27 8 k26_8
  have k27_9 := ku hg27 9 k26_9
  have k27_10 := kt hg27 10 (upd_same _ _ _)
  refine wpOps_end ?_
  refine hK21 _ _ ?_
  refine wp_ret ?_
  refine leave_gen (v := .tuple #[.agg #[.int .i64 b.tab, .slice (a1) (b.panels.length) (c1), .int .i64 b.height, .slice (a2) (b.top.length) (c2), .slice (a3) (b.bottom.length) (c3), .int .i64 b.slot, .bool b.isOpen], .int .i64 (if vi.isOpen = true then 7 + (k : Int) else 5 + (k : Int)), .bool false]) (.inr rfl) (by simp [results, Tryz.results69, go_sem, frv 50 k27_8, cl nb25 0, cl nb25 1, cl nb25 2, cl nb25 3, cl nb25 4, cl nb25 5, cl nb25 6, frv 50 k27_9, frv 50 k27_10]) ?_
  have hq := firstT_none (p := fun f => alwR (setB b k f) vi (lo, hi) (7 + k)) 3001 0 fun d h1 h2 => lp2 d h1 (by omega)
  exact ⟨fun f0 h0 => (by rw [show flapQ b vi (lo, hi) k = none from hq] at h0; cases h0), fun _ => ⟨rfl, fB25⟩⟩
theorem flap_refb {v : Value} {b : Bl} (vi : Wi) (k : Nat) (ki lo hi : Int) (w : World) (hB : Blk w v b) (hck : checkErr b = 0) (hw : WishIn vi) (hki : ki = (k : Int)) (hk : k < 2) (gl : 0 ≤ lo) (glh : lo ≤ hi + 1) (gh : hi ≤ 10000) :
    Calls Tryz.prog 69 #[v, .agg #[.int .i64 vi.length.1, .int .i64 vi.length.2, .int .i64 vi.width.1, .int .i64 vi.width.2, .int .i64 vi.height.1, .int .i64 vi.height.2, .int .i64 vi.outer.1, .int .i64 vi.outer.2, .int .i64 vi.inner.1, .int .i64 vi.inner.2, .bool vi.isOpen], .agg #[.int .i64 lo, .int .i64 hi], .int .i64 ki] w (FlapP b v vi (lo, hi) k w) := by
  subst hki
  obtain ⟨a1, n1, c1, a2, n2, c2, a3, n3, c3, rfl, h1, h2, h3⟩ := hB
  obtain rfl := h1.1; obtain rfl := h2.1; obtain rfl := h3.1
  exact flap_ref a1 a2 a3 c1 c2 c3 b vi k lo hi w h1 h2 h3 hck hw hk gl glh gh
end Go.Proofs.YthnediamopehfaaGreat
