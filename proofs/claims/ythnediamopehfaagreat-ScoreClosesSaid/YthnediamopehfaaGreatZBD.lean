/- Part of the proof: what the claim leans on. -/
import Derived.Test.YthnediamopehfaaGreatZBC
set_option linter.unusedSimpArgs false
set_option linter.unusedVariables false
namespace Go.Proofs.YthnediamopehfaaGreat
open Go.RowKit
def fitsR (n lo hi : Int) : Bool := inB n (1000 * lo) (1000 * hi)
set_option maxRecDepth 100000 in
set_option maxHeartbeats 400000 in
theorem fitsR_any (n lo hi : Int) (w : World) (g1 : -100000 ≤ lo) (g2 : lo ≤ 100000) (g3 : -100000 ≤ hi) (g4 : hi ≤ 100000) :
  Calls Tryz.prog 88 #[.int .i64 n, .agg #[.int .i64 lo, .int .i64 hi]] w (fun e w' => e = .returned (.bool (fitsR n lo hi)) ∧ Below w.heap.size w w') := by
 refine calls_fr Tryz.func88 Tryz.ntmps88 rfl rfl fun g hg => ?_
 have k0 : g 0 = .int .i64 n := hg 0
 have k1 : g 1 = .agg #[.int .i64 lo, .int .i64 hi] := hg 1
 clear hg
 have fB0 : Below w.heap.size w w := Below.refl _ _
 refine wp_seq_k fun K1 hK1 => ?_
 refine region_dk 2 [(3, 0), (4, 1)] [[], []] (rel [bx 0 #[.int .i64 lo, .int .i64 hi] 26,
   is (.bool false)])
  ⟨bx_k, is_k, trivial⟩
  ⟨fun f s W b c d h i a => opb rfl rfl (by simp [go_sem, a.e 1 k1]),
  fun f s W b c d h i a => opv rfl rfl (by simp [go_sem]) rfl, trivial⟩ ?_
 intro f1 s1 W1 hB1 g1 hg1
 have fB1 := below_trans fB0 hB1.below
 have z1 := hB1.below.size
 obtain ⟨r1_0, br1_0⟩ := hB1.is 0
 have lr1_0 := hB1.lr 0 br1_0
 refine hK1 _ _ ?_
 have k1_0 := kt hg1 0 k0
 have k1_3 := kt hg1 3 r1_0
 have k1_4 := kt hg1 4 (hB1.is 1)
 refine wp_seq_k fun K2 hK2 => ?_
 refine region_dk 9 [(5, 0), (6, 1), (7, 2), (8, 3), (9, 4), (10, 5), (11, 6), (12, 7), (4, 8)] [[], [], [1], [1, 2], [], [4], [4, 5], [0, 1, 2, 3, 4, 5, 6], [0, 1, 2, 3, 4, 5, 6, 7]] (rel [is (.int .i64 n),
   is (.pointer (some ⟨(s1 0), 0, none⟩)),
   is (.int .i64 lo),
   is (.int .i64 (1000 * lo)),
   is (.pointer (some ⟨(s1 0), 1, none⟩)),
   is (.int .i64 hi),
   is (.int .i64 (1000 * hi)),
   is (.bool (inB (n) (1000 * lo) (1000 * hi))),
   is (.bool (inB (n) (1000 * lo) (1000 * hi)))])
  ⟨is_k, is_k, is_k, is_k, is_k, is_k, is_k, is_k, is_k, trivial⟩
  ⟨fun f s W b c d h i a => opv rfl rfl (by simp [go_sem, a.e 0 k1_0]) rfl,
  fun f s W b c d h i a => opv rfl rfl (by simp [go_sem, a.e 3 k1_3]) rfl,
  fun f s W b c d h i a => opv rfl rfl (by simp [go_sem, a.e 6 (c 1 rfl), Joins.cell_of_block (blk_below br1_0 b) 0]) rfl,
  fun f s W b c d h i a => opv rfl rfl (by simp [go_sem, a.e 7 (c 2 rfl), IntWalk.i64_in (1000 * lo) (by omega)]) rfl,
  fun f s W b c d h i a => opv rfl rfl (by simp [go_sem, a.e 3 k1_3]) rfl,
  fun f s W b c d h i a => opv rfl rfl (by simp [go_sem, a.e 9 (c 4 rfl), Joins.cell_of_block (blk_below br1_0 b) 1]) rfl,
  fun f s W b c d h i a => opv rfl rfl (by simp [go_sem, a.e 10 (c 5 rfl), IntWalk.i64_in (1000 * hi) (by omega)]) rfl,
  fun f s W b c d h i a => opc rfl rfl (by simp [go_sem, a.e 5 (c 0 rfl), a.e 8 (c 3 rfl), a.e 11 (c 6 rfl)]) (in_any (n) (1000 * lo) (1000 * hi) W),
  fun f s W b c d h i a => opv rfl rfl (by simp [go_sem, a.e 12 (c 7 rfl)]) rfl, trivial⟩ ?_
 intro f2 s2 W2 hB2 g2 hg2
 have fB2 := below_trans fB1 hB2.below
 have z2 := hB2.below.size
 have b2_0 := blk_below br1_0 hB2.below
 refine hK2 _ _ ?_
 have k2_4 := kt hg2 4 (hB2.is 8)
 refine wp_ret ?_
 refine leave_one (N := 13) (v := .bool (inB (n) (1000 * lo) (1000 * hi))) (.inr rfl) Tryz.results88 rfl k2_4 ?_
 exact ⟨rfl, fB2⟩
def flapR (b : Bl) (top outer : Bool) : Int := (if top = true then b.top else b.bottom).getD (if outer = true then 0 else 1) 0
def gapR (b : Bl) (top outer : Bool) (c : Int) : Int := (panR b (if outer = true then 1 else 0) c - 1000 * flapR b top outer) - 1000 * flapR b top outer
set_option maxRecDepth 100000 in
set_option maxHeartbeats 2000000 in
theorem gapR_any (a1 a2 a3 : Option Addr) (c1 c2 c3 : Nat) (b : Bl) (top outer : Bool) (cal : Int) (w : World) (h1 : Ii w a1 b.panels.length c1 b.panels) (h2 : Ii w a2 b.top.length c2 b.top) (h3 : Ii w a3 b.bottom.length c3 b.bottom) (hck : checkErr b = 0) (gc : 0 ≤ cal ∧ cal ≤ 100000) :
  Calls Tryz.prog 58 #[.agg #[.int .i64 b.tab, .slice (a1) (b.panels.length) (c1), .int .i64 b.height, .slice (a2) (b.top.length) (c2), .slice (a3) (b.bottom.length) (c3), .int .i64 b.slot, .bool b.isOpen], .bool top, .bool outer, .int .i64 cal] w (fun e w' => e = .returned (.int .i64 (gapR b top outer cal)) ∧ Below w.heap.size w w') := by
 have hm1 := h1.len_le
 have hm2 := h2.len_le
 have hm3 := h3.len_le
 obtain ⟨⟨hl1, hl2, hl3⟩, gt, gs, gh, ⟨gp0, gp1, gp2, gp3⟩, gt0, gt1, gu0, gu1⟩ := good_nums hck
 obtain ⟨q2, o2, hq2, hql2, hqc2⟩ := h2.at (by omega)
 obtain ⟨q3, o3, hq3, hql3, hqc3⟩ := h3.at (by omega)
 obtain ⟨t0, ht0⟩ : ∃ y, b.top.getD 0 0 = y := ⟨_, rfl⟩
 obtain ⟨t1, ht1⟩ : ∃ y, b.top.getD 1 0 = y := ⟨_, rfl⟩
 obtain ⟨u0, hu0⟩ : ∃ y, b.bottom.getD 0 0 = y := ⟨_, rfl⟩
 obtain ⟨u1, hu1⟩ : ∃ y, b.bottom.getD 1 0 = y := ⟨_, rfl⟩
 rw [ht0] at gt0; rw [ht1] at gt1; rw [hu0] at gu0; rw [hu1] at gu1
 have wp0 : panR b 0 cal = 1000 * b.panels.getD 0 0 - cal := rfl
 have wp1 : panR b 1 cal = 1000 * b.panels.getD 1 0 - cal := rfl
 refine calls_fr Tryz.func58 Tryz.ntmps58 rfl rfl fun g hg => ?_
 have k0 : g 0 = .agg #[.int .i64 b.tab, .slice (a1) (b.panels.length) (c1), .int .i64 b.height, .slice (a2) (b.top.length) (c2), .slice (a3) (b.bottom.length) (c3), .int .i64 b.slot, .bool b.isOpen] := hg 0
 have k1 : g 1 = .bool top := hg 1
 have k2 : g 2 = .bool outer := hg 2
 have k3 : g 3 = .int .i64 cal := hg 3
 clear hg
 have fB0 : Below w.heap.size w w := Below.refl _ _
 refine wp_seq_k fun K1 hK1 => ?_
 refine region_dk 2 [(4, 0), (8, 1)] [[], []] (rel [bx 0 #[.int .i64 b.tab, .slice (a1) (b.panels.length) (c1), .int .i64 b.height, .slice (a2) (b.top.length) (c2), .slice (a3) (b.bottom.length) (c3), .int .i64 b.slot, .bool b.isOpen] 24,
   is (.int .i64 0)])
  ⟨bx_k, is_k, trivial⟩
  ⟨fun f s W c d h i j a => opb rfl rfl (by simp [go_sem, a.e 0 k0]),
  fun f s W c d h i j a => opv rfl rfl (by simp [go_sem]) rfl, trivial⟩ ?_
 intro f1 s1 W1 hB1 g1 hg1
 have fB1 := below_trans fB0 hB1.below
 have z1 := hB1.below.size
 obtain ⟨r1_0, br1_0⟩ := hB1.is 0
 have lr1_0 := hB1.lr 0 br1_0
 refine hK1 _ _ ?_
 have k1_1 := kt hg1 1 k1
 have k1_2 := kt hg1 2 k2
 have k1_3 := kt hg1 3 k3
 have k1_4 := kt hg1 4 r1_0
 have k1_8 := kt hg1 8 (hB1.is 1)
 refine wp_seq_k fun K2 hK2 => ?_
 refine region_dk 3 [(10, 0), (11, 1), (9, 2)] [[], [0], [0, 1]] (rel [is (.pointer (some ⟨(s1 0), 4, none⟩)),
   is (.slice (a3) (b.bottom.length) (c3)),
   is (.slice (a3) (b.bottom.length) (c3))])
  ⟨is_k, is_k, is_k, trivial⟩
  ⟨fun f s W c d h i j a => opv rfl rfl (by simp [go_sem, a.e 4 k1_4]) rfl,
  fun f s W c d h i j a => opv rfl rfl (by simp [go_sem, a.e 10 (d 0 rfl), Joins.cell_of_block (blk_below br1_0 c) 4]) rfl,
  fun f s W c d h i j a => opv rfl rfl (by simp [go_sem, a.e 11 (d 1 rfl)]) rfl, trivial⟩ ?_
 intro f2 s2 W2 hB2 g2 hg2
 have fB2 := below_trans fB1 hB2.below
 have z2 := hB2.below.size
 have b2_0 := blk_below br1_0 hB2.below
 refine hK2 _ _ ?_
 have k2_1 := kt hg2 1 k1_1
 have k2_2 := kt hg2 2 k1_2
 have k2_3 := kt hg2 3 k1_3
 have k2_4 := kt hg2 4 k1_4
 have k2_8 := kt hg2 8 k1_8
 have k2_9 := kt hg2 9 (hB2.is 2)
 refine wp_seq_k fun K3 hK3 => ?_
 refine wp_seq_k fun K4 hK4 => ?_
 refine region_dk 1 [(12, 0)] [[]] (rel [is (.bool top)])
  ⟨is_k, trivial⟩
  ⟨fun f s W c d h i j a => opv rfl rfl (by simp [go_sem, a.e 1 k2_1]) rfl, trivial⟩ ?_
 intro f3 s3 W3 hB3 g3 hg3
 have fB3 := below_trans fB2 hB3.below
 have z3 := hB3.below.size
 have b3_0 := blk_below b2_0 hB3.below
 refine hK4 _ _ ?_
 have k3_2 := kt hg3 2 k2_2
 have k3_3 := kt hg3 3 k2_3
 have k3_4 := kt hg3 4 k2_4
 have k3_8 := kt hg3 8 k2_8
 have k3_9 := kt hg3 9 k2_9
 have k3_12 := kt hg3 12 (hB3.is 0)
 refine wp_cond_split (t := top) ((fr_eval rfl).trans k3_12) (fun hc5 => ?_) (fun hc5 => ?_)
 ·
  have hc5' := hc5; try simp only [decide_eq_true_eq, decide_eq_false_iff_not, Bool.and_eq_true, Bool.or_eq_true, Bool.and_eq_false_iff, Bool.or_eq_false_iff, beq_iff_eq, bne_iff_ne, Bool.not_eq_true', Bool.not_eq_false', ne_eq, bne_eq_false_iff_eq, beq_eq_false_iff_ne] at hc5'
  refine region_dk 3 [(13, 0), (14, 1), (9, 2)] [[], [0], [0, 1]] (rel [is (.pointer (some ⟨(s1 0), 3, none⟩)),
   is (.slice (a2) (b.top.length) (c2)),
   is (.slice (a2) (b.top.length) (c2))])
   ⟨is_k, is_k, is_k, trivial⟩
   ⟨fun f s W c d h i j a => opv rfl rfl (by simp [go_sem, a.e 4 k3_4]) rfl,
  fun f s W c d h i j a => opv rfl rfl (by simp [go_sem, a.e 13 (d 0 rfl), Joins.cell_of_block (blk_below b3_0 c) 3]) rfl,
  fun f s W c d h i j a => opv rfl rfl (by simp [go_sem, a.e 14 (d 1 rfl)]) rfl, trivial⟩ ?_
  intro f4 s4 W4 hB4 g4 hg4
  have fB4 := below_trans fB3 hB4.below
  have z4 := hB4.below.size
  have b4_0 := blk_below b3_0 hB4.below
  refine hK3 _ _ ?_
  have k4_2 := kt hg4 2 k3_2
  have k4_3 := kt hg4 3 k3_3
  have k4_4 := kt hg4 4 k3_4
  have k4_8 := kt hg4 8 k3_8
  have k4_9 := kt hg4 9 (hB4.is 2)
  refine wp_seq_k fun K6 hK6 => ?_
  refine wp_seq_k fun K7 hK7 => ?_
  refine region_dk 1 [(15, 0)] [[]] (rel [is (.bool outer)])
   ⟨is_k, trivial⟩
   ⟨fun f s W c d h i j a => opv rfl rfl (by simp [go_sem, a.e 2 k4_2]) rfl, trivial⟩ ?_
  intro f5 s5 W5 hB5 g5 hg5
  have fB5 := below_trans fB4 hB5.below
  have z5 := hB5.below.size
  have b5_0 := blk_below b4_0 hB5.below
  refine hK7 _ _ ?_
  have k5_3 := kt hg5 3 k4_3
  have k5_4 := kt hg5 4 k4_4
  have k5_8 := kt hg5 8 k4_8
  have k5_9 := kt hg5 9 k4_9
  have k5_15 := kt hg5 15 (hB5.is 0)
  refine wp_cond_split (t := outer) ((fr_eval rfl).trans k5_15) (fun hc8 => ?_) (fun hc8 => ?_)
  ·
   have hc8' := hc8; try simp only [decide_eq_true_eq, decide_eq_false_iff_not, Bool.and_eq_true, Bool.or_eq_true, Bool.and_eq_false_iff, Bool.or_eq_false_iff, beq_iff_eq, bne_iff_ne, Bool.not_eq_true', Bool.not_eq_false', ne_eq, bne_eq_false_iff_eq, beq_eq_false_iff_ne] at hc8'
   refine wp_seq_k fun K9 hK9 => ?_
   refine region_dk 14 [(16, 0), (17, 1), (18, 2), (19, 3), (20, 4), (21, 5), (22, 6), (23, 7), (24, 8), (25, 9), (26, 10), (27, 11), (28, 12), (8, 13)] [[], [], [0, 1], [], [3], [3, 4], [3, 4, 5], [0, 1, 2, 3, 4, 5, 6], [], [8], [8, 9], [8, 9, 10], [0, 1, 2, 3, 4, 5, 6, 7, 8, 9, 10, 11], [0, 1, 2, 3, 4, 5, 6, 7, 8, 9, 10, 11, 12]] (rel [is (.agg #[.int .i64 b.tab, .slice (a1) (b.panels.length) (c1), .int .i64 b.height, .slice (a2) (b.top.length) (c2), .slice (a3) (b.bottom.length) (c3), .int .i64 b.slot, .bool b.isOpen]),
   is (.int .i64 cal),
   is (.int .i64 ((panR b 1 cal))),
   is (.slice (a2) (b.top.length) (c2)),
   is (.pointer (some ⟨q2, o2, none⟩)),
   is (.int .i64 t0),
   is (.int .i64 (1000 * t0)),
   is (.int .i64 ((panR b 1 cal) - (1000 * t0))),
   is (.slice (a2) (b.top.length) (c2)),
   is (.pointer (some ⟨q2, o2, none⟩)),
   is (.int .i64 t0),
   is (.int .i64 (1000 * t0)),
   is (.int .i64 (((panR b 1 cal) - (1000 * t0)) - (1000 * t0))),
   is (.int .i64 (((panR b 1 cal) - (1000 * t0)) - (1000 * t0)))])
    ⟨is_k, is_k, is_k, is_k, is_k, is_k, is_k, is_k, is_k, is_k, is_k, is_k, is_k, is_k, trivial⟩
    ⟨fun f s W c d h i j a => opv rfl rfl (by simp [go_sem, a.e 4 k5_4, Joins.cell_of_block (blk_below b5_0 c) 0, Joins.cell_of_block (blk_below b5_0 c) 1, Joins.cell_of_block (blk_below b5_0 c) 2, Joins.cell_of_block (blk_below b5_0 c) 3, Joins.cell_of_block (blk_below b5_0 c) 4, Joins.cell_of_block (blk_below b5_0 c) 5, Joins.cell_of_block (blk_below b5_0 c) 6]) rfl,
  fun f s W c d h i j a => opv rfl rfl (by simp [go_sem, a.e 3 k5_3]) rfl,
  fun f s W c d h i j a => by have k := below_trans fB5 c; exact opc (args := #[.agg #[.int .i64 b.tab, .slice (a1) (b.panels.length) (c1), .int .i64 b.height, .slice (a2) (b.top.length) (c2), .slice (a3) (b.bottom.length) (c3), .int .i64 b.slot, .bool b.isOpen], .int .i64 1, .int .i64 cal]) rfl rfl (by simp [go_sem, a.e 16 (d 0 rfl), a.e 17 (d 1 rfl)]) (panR_any a1 a2 a3 c1 c2 c3 b 1 1 _ cal W (h1.below k (Nat.le_refl _)) (h2.below k (Nat.le_refl _)) (h3.below k (Nat.le_refl _)) rfl (by omega) rfl (by omega) (by omega) (by omega) (by omega)),
  fun f s W c d h i j a => opv rfl rfl (by simp [go_sem, a.e 9 k5_9]) rfl,
  fun f s W c d h i j a => opv rfl rfl (by simp [go_sem, a.e 19 (d 3 rfl), hq2, hl2]) rfl,
  fun f s W c d h i j a => by have k := below_trans fB5 c; have u2_0 : W.cell? ⟨q2, o2, none⟩ = some (.int .i64 t0) := (k.cell (p := ⟨q2, o2, none⟩) hql2).trans (by have hq_ := hqc2 0 (by omega); rw [ht0] at hq_; exact hq_); exact opv rfl rfl (by simp [go_sem, a.e 20 (d 4 rfl), u2_0]) rfl,
  fun f s W c d h i j a => opv rfl rfl (by simp [go_sem, a.e 21 (d 5 rfl), IntWalk.i64_in (1000 * t0) (by omega)]) rfl,
  fun f s W c d h i j a => opv rfl rfl (by simp [go_sem, a.e 18 (d 2 rfl), a.e 22 (d 6 rfl), IntWalk.i64_in ((panR b 1 cal) - (1000 * t0)) (by omega)]) rfl,
  fun f s W c d h i j a => opv rfl rfl (by simp [go_sem, a.e 9 k5_9]) rfl,
  fun f s W c d h i j a => opv rfl rfl (by simp [go_sem, a.e 24 (d 8 rfl), hq2, hl2]) rfl,
  fun f s W c d h i j a => by have k := below_trans fB5 c; have u2_0 : W.cell? ⟨q2, o2, none⟩ = some (.int .i64 t0) := (k.cell (p := ⟨q2, o2, none⟩) hql2).trans (by have hq_ := hqc2 0 (by omega); rw [ht0] at hq_; exact hq_); exact opv rfl rfl (by simp [go_sem, a.e 25 (d 9 rfl), u2_0]) rfl,
  fun f s W c d h i j a => opv rfl rfl (by simp [go_sem, a.e 26 (d 10 rfl), IntWalk.i64_in (1000 * t0) (by omega)]) rfl,
  fun f s W c d h i j a => opv rfl rfl (by simp [go_sem, a.e 23 (d 7 rfl), a.e 27 (d 11 rfl), IntWalk.i64_in (((panR b 1 cal) - (1000 * t0)) - (1000 * t0)) (by omega)]) rfl,
  fun f s W c d h i j a => opv rfl rfl (by simp [go_sem, a.e 28 (d 12 rfl)]) rfl, trivial⟩ ?_
   intro f6 s6 W6 hB6 g6 hg6
   have fB6 := below_trans fB5 hB6.below
   have z6 := hB6.below.size
   have b6_0 := blk_below b5_0 hB6.below
   refine hK9 _ _ ?_
   have k6_3 := kt hg6 3 k5_3
   have k6_4 := kt hg6 4 k5_4
   have k6_9 := kt hg6 9 k5_9
   have k6_8 := kt hg6 8 (hB6.is 13)
   refine wp_ret ?_
   refine then_ret ?_
   refine leave_one (N := 42) (v := .int .i64 (((panR b 1 cal) - (1000 * t0)) - (1000 * t0))) (.inr rfl) Tryz.results58 rfl k6_8 ?_
   exact ⟨by rw [hc5, hc8]; show _ = Ending.returned (.int .i64 ((panR b 1 cal - 1000 * (b.top).getD 0 0) - 1000 * (b.top).getD 0 0)); rw [ht0], fB6⟩
  ·
   have hc8' := hc8; try simp only [decide_eq_true_eq, decide_eq_false_iff_not, Bool.and_eq_true, Bool.or_eq_true, Bool.and_eq_false_iff, Bool.or_eq_false_iff, beq_iff_eq, bne_iff_ne, Bool.not_eq_true', Bool.not_eq_false', ne_eq, bne_eq_false_iff_eq, beq_eq_false_iff_ne] at hc8'
   refine wp_skip ?_
   refine hK6 _ _ ?_
   refine wp_seq_k fun K10 hK10 => ?_
   refine region_dk 14 [(29, 0), (30, 1), (31, 2), (32, 3), (33, 4), (34, 5), (35, 6), (36, 7), (37, 8), (38, 9), (39, 10), (40, 11), (41, 12), (8, 13)] [[], [], [0, 1], [], [3], [3, 4], [3, 4, 5], [0, 1, 2, 3, 4, 5, 6], [], [8], [8, 9], [8, 9, 10], [0, 1, 2, 3, 4, 5, 6, 7, 8, 9, 10, 11], [0, 1, 2, 3, 4, 5, 6, 7, 8, 9, 10, 11, 12]] (rel [is (.agg #[.int .i64 b.tab, .slice (a1) (b.panels.length) (c1), .int .i64 b.height, .slice (a2) (b.top.length) (c2), .slice (a3) (b.bottom.length) (c3), .int .i64 b.slot, .bool b.isOpen]),
   is (.int .i64 cal),
   is (.int .i64 ((panR b 0 cal))),
   is (.slice (a2) (b.top.length) (c2)),
   is (.pointer (some ⟨q2, o2 + 1, none⟩)),
   is (.int .i64 t1),
   is (.int .i64 (1000 * t1)),
   is (.int .i64 ((panR b 0 cal) - (1000 * t1))),
   is (.slice (a2) (b.top.length) (c2)),
   is (.pointer (some ⟨q2, o2 + 1, none⟩)),
   is (.int .i64 t1),
   is (.int .i64 (1000 * t1)),
   is (.int .i64 (((panR b 0 cal) - (1000 * t1)) - (1000 * t1))),
   is (.int .i64 (((panR b 0 cal) - (1000 * t1)) - (1000 * t1)))])
    ⟨is_k, is_k, is_k, is_k, is_k, is_k, is_k, is_k, is_k, is_k, is_k, is_k, is_k, is_k, trivial⟩
    ⟨fun f s W c d h i j a => opv rfl rfl (by simp [go_sem, a.e 4 k5_4, Joins.cell_of_block (blk_below b5_0 c) 0, Joins.cell_of_block (blk_below b5_0 c) 1, Joins.cell_of_block (blk_below b5_0 c) 2, Joins.cell_of_block (blk_below b5_0 c) 3, Joins.cell_of_block (blk_below b5_0 c) 4, Joins.cell_of_block (blk_below b5_0 c) 5, Joins.cell_of_block (blk_below b5_0 c) 6]) rfl,
  fun f s W c d h i j a => opv rfl rfl (by simp [go_sem, a.e 3 k5_3]) rfl,
  fun f s W c d h i j a => by have k := below_trans fB5 c; exact opc (args := #[.agg #[.int .i64 b.tab, .slice (a1) (b.panels.length) (c1), .int .i64 b.height, .slice (a2) (b.top.length) (c2), .slice (a3) (b.bottom.length) (c3), .int .i64 b.slot, .bool b.isOpen], .int .i64 0, .int .i64 cal]) rfl rfl (by simp [go_sem, a.e 29 (d 0 rfl), a.e 30 (d 1 rfl)]) (panR_any a1 a2 a3 c1 c2 c3 b 0 0 _ cal W (h1.below k (Nat.le_refl _)) (h2.below k (Nat.le_refl _)) (h3.below k (Nat.le_refl _)) rfl (by omega) rfl (by omega) (by omega) (by omega) (by omega)),
  fun f s W c d h i j a => opv rfl rfl (by simp [go_sem, a.e 9 k5_9]) rfl,
  fun f s W c d h i j a => opv rfl rfl (by simp [go_sem, a.e 32 (d 3 rfl), hq2, hl2]) rfl,
  fun f s W c d h i j a => by have k := below_trans fB5 c; have u2_1 : W.cell? ⟨q2, o2 + 1, none⟩ = some (.int .i64 t1) := (k.cell (p := ⟨q2, o2 + 1, none⟩) hql2).trans (by have hq_ := hqc2 1 (by omega); rw [ht1] at hq_; exact hq_); exact opv rfl rfl (by simp [go_sem, a.e 33 (d 4 rfl), u2_1]) rfl,
  fun f s W c d h i j a => opv rfl rfl (by simp [go_sem, a.e 34 (d 5 rfl), IntWalk.i64_in (1000 * t1) (by omega)]) rfl,
  fun f s W c d h i j a => opv rfl rfl (by simp [go_sem, a.e 31 (d 2 rfl), a.e 35 (d 6 rfl), IntWalk.i64_in ((panR b 0 cal) - (1000 * t1)) (by omega)]) rfl,
  fun f s W c d h i j a => opv rfl rfl (by simp [go_sem, a.e 9 k5_9]) rfl,
  fun f s W c d h i j a => opv rfl rfl (by simp [go_sem, a.e 37 (d 8 rfl), hq2, hl2]) rfl,
  fun f s W c d h i j a => by have k := below_trans fB5 c; have u2_1 : W.cell? ⟨q2, o2 + 1, none⟩ = some (.int .i64 t1) := (k.cell (p := ⟨q2, o2 + 1, none⟩) hql2).trans (by have hq_ := hqc2 1 (by omega); rw [ht1] at hq_; exact hq_); exact opv rfl rfl (by simp [go_sem, a.e 38 (d 9 rfl), u2_1]) rfl,
  fun f s W c d h i j a => opv rfl rfl (by simp [go_sem, a.e 39 (d 10 rfl), IntWalk.i64_in (1000 * t1) (by omega)]) rfl,
  fun f s W c d h i j a => opv rfl rfl (by simp [go_sem, a.e 36 (d 7 rfl), a.e 40 (d 11 rfl), IntWalk.i64_in (((panR b 0 cal) - (1000 * t1)) - (1000 * t1)) (by omega)]) rfl,
  fun f s W c d h i j a => opv rfl rfl (by simp [go_sem, a.e 41 (d 12 rfl)]) rfl, trivial⟩ ?_
   intro f7 s7 W7 hB7 g7 hg7
   have fB7 := below_trans fB5 hB7.below
   have z7 := hB7.below.size
   have b7_0 := blk_below b5_0 hB7.below
   refine hK10 _ _ ?_
   have k7_8 := kt hg7 8 (hB7.is 13)
   refine wp_ret ?_
   refine leave_one (N := 42) (v := .int .i64 (((panR b 0 cal) - (1000 * t1)) - (1000 * t1))) (.inr rfl) Tryz.results58 rfl k7_8 ?_
   exact ⟨by rw [hc5, hc8]; show _ = Ending.returned (.int .i64 ((panR b 0 cal - 1000 * (b.top).getD 1 0) - 1000 * (b.top).getD 1 0)); rw [ht1], fB7⟩
 ·
  have hc5' := hc5; try simp only [decide_eq_true_eq, decide_eq_false_iff_not, Bool.and_eq_true, Bool.or_eq_true, Bool.and_eq_false_iff, Bool.or_eq_false_iff, beq_iff_eq, bne_iff_ne, Bool.not_eq_true', Bool.not_eq_false', ne_eq, bne_eq_false_iff_eq, beq_eq_false_iff_ne] at hc5'
  refine wp_skip ?_
  refine hK3 _ _ ?_
  refine wp_seq_k fun K11 hK11 => ?_
  refine wp_seq_k fun K12 hK12 => ?_
  refine region_dk 1 [(15, 0)] [[]] (rel [is (.bool outer)])
   ⟨is_k, trivial⟩
   ⟨fun f s W c d h i j a => opv rfl rfl (by simp [go_sem, a.e 2 k3_2]) rfl, trivial⟩ ?_
  intro f8 s8 W8 hB8 g8 hg8
  have fB8 := below_trans fB3 hB8.below
  have z8 := hB8.below.size
  have b8_0 := blk_below b3_0 hB8.below
  refine hK12 _ _ ?_
  have k8_3 := kt hg8 3 k3_3
  have k8_4 := kt hg8 4 k3_4
  have k8_8 := kt hg8 8 k3_8
  have k8_9 := kt hg8 9 k3_9
  have k8_15 := kt hg8 15 (hB8.is 0)
  refine wp_cond_split (t := outer) ((fr_eval rfl).trans k8_15) (fun hc13 => ?_) (fun hc13 => ?_)
  ·
   have hc13' := hc13; try simp only [decide_eq_true_eq, decide_eq_false_iff_not, Bool.and_eq_true, Bool.or_eq_true, Bool.and_eq_false_iff, Bool.or_eq_false_iff, beq_iff_eq, bne_iff_ne, Bool.not_eq_true', Bool.not_eq_false', ne_eq, bne_eq_false_iff_eq, beq_eq_false_iff_ne] at hc13'
   refine wp_seq_k fun K14 hK14 => ?_
   refine region_dk 14 [(16, 0), (17, 1), (18, 2), (19, 3), (20, 4), (21, 5), (22, 6), (23, 7), (24, 8), (25, 9), (26, 10), (27, 11), (28, 12), (8, 13)] [[], [], [0, 1], [], [3], [3, 4], [3, 4, 5], [0, 1, 2, 3, 4, 5, 6], [], [8], [8, 9], [8, 9, 10], [0, 1, 2, 3, 4, 5, 6, 7, 8, 9, 10, 11], [0, 1, 2, 3, 4, 5, 6, 7, 8, 9, 10, 11, 12]] (rel [is (.agg #[.int .i64 b.tab, .slice (a1) (b.panels.length) (c1), .int .i64 b.height, .slice (a2) (b.top.length) (c2), .slice (a3) (b.bottom.length) (c3), .int .i64 b.slot, .bool b.isOpen]),
   is (.int .i64 cal),
   is (.int .i64 ((panR b 1 cal))),
   is (.slice (a3) (b.bottom.length) (c3)),
   is (.pointer (some ⟨q3, o3, none⟩)),
   is (.int .i64 u0),
   is (.int .i64 (1000 * u0)),
   is (.int .i64 ((panR b 1 cal) - (1000 * u0))),
   is (.slice (a3) (b.bottom.length) (c3)),
   is (.pointer (some ⟨q3, o3, none⟩)),
   is (.int .i64 u0),
   is (.int .i64 (1000 * u0)),
   is (.int .i64 (((panR b 1 cal) - (1000 * u0)) - (1000 * u0))),
   is (.int .i64 (((panR b 1 cal) - (1000 * u0)) - (1000 * u0)))])
    ⟨is_k, is_k, is_k, is_k, is_k, is_k, is_k, is_k, is_k, is_k, is_k, is_k, is_k, is_k, trivial⟩
    ⟨fun f s W c d h i j a => opv rfl rfl (by simp [go_sem, a.e 4 k8_4, Joins.cell_of_block (blk_below b8_0 c) 0, Joins.cell_of_block (blk_below b8_0 c) 1, Joins.cell_of_block (blk_below b8_0 c) 2, Joins.cell_of_block (blk_below b8_0 c) 3, Joins.cell_of_block (blk_below b8_0 c) 4, Joins.cell_of_block (blk_below b8_0 c) 5, Joins.cell_of_block (blk_below b8_0 c) 6]) rfl,
  fun f s W c d h i j a => opv rfl rfl (by simp [go_sem, a.e 3 k8_3]) rfl,
  fun f s W c d h i j a => by have k := below_trans fB8 c; exact opc (args := #[.agg #[.int .i64 b.tab, .slice (a1) (b.panels.length) (c1), .int .i64 b.height, .slice (a2) (b.top.length) (c2), .slice (a3) (b.bottom.length) (c3), .int .i64 b.slot, .bool b.isOpen], .int .i64 1, .int .i64 cal]) rfl rfl (by simp [go_sem, a.e 16 (d 0 rfl), a.e 17 (d 1 rfl)]) (panR_any a1 a2 a3 c1 c2 c3 b 1 1 _ cal W (h1.below k (Nat.le_refl _)) (h2.below k (Nat.le_refl _)) (h3.below k (Nat.le_refl _)) rfl (by omega) rfl (by omega) (by omega) (by omega) (by omega)),
  fun f s W c d h i j a => opv rfl rfl (by simp [go_sem, a.e 9 k8_9]) rfl,
  fun f s W c d h i j a => opv rfl rfl (by simp [go_sem, a.e 19 (d 3 rfl), hq3, hl3]) rfl,
  fun f s W c d h i j a => by have k := below_trans fB8 c; have u3_0 : W.cell? ⟨q3, o3, none⟩ = some (.int .i64 u0) := (k.cell (p := ⟨q3, o3, none⟩) hql3).trans (by have hq_ := hqc3 0 (by omega); rw [hu0] at hq_; exact hq_); exact opv rfl rfl (by simp [go_sem, a.e 20 (d 4 rfl), u3_0]) rfl,
  fun f s W c d h i j a => opv rfl rfl (by simp [go_sem, a.e 21 (d 5 rfl), IntWalk.i64_in (1000 * u0) (by omega)]) rfl,
  fun f s W c d h i j a => opv rfl rfl (by simp [go_sem, a.e 18 (d 2 rfl), a.e 22 (d 6 rfl), IntWalk.i64_in ((panR b 1 cal) - (1000 * u0)) (by omega)]) rfl,
  fun f s W c d h i j a => opv rfl rfl (by simp [go_sem, a.e 9 k8_9]) rfl,
  fun f s W c d h i j a => opv rfl rfl (by simp [go_sem, a.e 24 (d 8 rfl), hq3, hl3]) rfl,
  fun f s W c d h i j a => by have k := below_trans fB8 c; have u3_0 : W.cell? ⟨q3, o3, none⟩ = some (.int .i64 u0) := (k.cell (p := ⟨q3, o3, none⟩) hql3).trans (by have hq_ := hqc3 0 (by omega); rw [hu0] at hq_; exact hq_); exact opv rfl rfl (by simp [go_sem, a.e 25 (d 9 rfl), u3_0]) rfl,
  fun f s W c d h i j a => opv rfl rfl (by simp [go_sem, a.e 26 (d 10 rfl), IntWalk.i64_in (1000 * u0) (by omega)]) rfl,
  fun f s W c d h i j a => opv rfl rfl (by simp [go_sem, a.e 23 (d 7 rfl), a.e 27 (d 11 rfl), IntWalk.i64_in (((panR b 1 cal) - (1000 * u0)) - (1000 * u0)) (by omega)]) rfl,
  fun f s W c d h i j a => opv rfl rfl (by simp [go_sem, a.e 28 (d 12 rfl)]) rfl, trivial⟩ ?_
   intro f9 s9 W9 hB9 g9 hg9
   have fB9 := below_trans fB8 hB9.below
   have z9 := hB9.below.size
   have b9_0 := blk_below b8_0 hB9.below
   refine hK14 _ _ ?_
   have k9_3 := kt hg9 3 k8_3
   have k9_4 := kt hg9 4 k8_4
   have k9_9 := kt hg9 9 k8_9
   have k9_8 := kt hg9 8 (hB9.is 13)
   refine wp_ret ?_
   refine then_ret ?_
   refine leave_one (N := 42) (v := .int .i64 (((panR b 1 cal) - (1000 * u0)) - (1000 * u0))) (.inr rfl) Tryz.results58 rfl k9_8 ?_
   exact ⟨by rw [hc5, hc13]; show _ = Ending.returned (.int .i64 ((panR b 1 cal - 1000 * (b.bottom).getD 0 0) - 1000 * (b.bottom).getD 0 0)); rw [hu0], fB9⟩
  ·
   have hc13' := hc13; try simp only [decide_eq_true_eq, decide_eq_false_iff_not, Bool.and_eq_true, Bool.or_eq_true, Bool.and_eq_false_iff, Bool.or_eq_false_iff, beq_iff_eq, bne_iff_ne, Bool.not_eq_true', Bool.not_eq_false', ne_eq, bne_eq_false_iff_eq, beq_eq_false_iff_ne] at hc13'
   refine wp_skip ?_
   refine hK11 _ _ ?_
   refine wp_seq_k fun K15 hK15 => ?_
   refine region_dk 14 [(29, 0), (30, 1), (31, 2), (32, 3), (33, 4), (34, 5), (35, 6), (36, 7), (37, 8), (38, 9), (39, 10), (40, 11), (41, 12), (8, 13)] [[], [], [0, 1], [], [3], [3, 4], [3, 4, 5], [0, 1, 2, 3, 4, 5, 6], [], [8], [8, 9], [8, 9, 10], [0, 1, 2, 3, 4, 5, 6, 7, 8, 9, 10, 11], [0, 1, 2, 3, 4, 5, 6, 7, 8, 9, 10, 11, 12]] (rel [is (.agg #[.int .i64 b.tab, .slice (a1) (b.panels.length) (c1), .int .i64 b.height, .slice (a2) (b.top.length) (c2), .slice (a3) (b.bottom.length) (c3), .int .i64 b.slot, .bool b.isOpen]),
   is (.int .i64 cal),
   is (.int .i64 ((panR b 0 cal))),
   is (.slice (a3) (b.bottom.length) (c3)),
   is (.pointer (some ⟨q3, o3 + 1, none⟩)),
   is (.int .i64 u1),
   is (.int .i64 (1000 * u1)),
   is (.int .i64 ((panR b 0 cal) - (1000 * u1))),
   is (.slice (a3) (b.bottom.length) (c3)),
   is (.pointer (some ⟨q3, o3 + 1, none⟩)),
   is (.int .i64 u1),
   is (.int .i64 (1000 * u1)),
   is (.int .i64 (((panR b 0 cal) - (1000 * u1)) - (1000 * u1))),
   is (.int .i64 (((panR b 0 cal) - (1000 * u1)) - (1000 * u1)))])
    ⟨is_k, is_k, is_k, is_k, is_k, is_k, is_k, is_k, is_k, is_k, is_k, is_k, is_k, is_k, trivial⟩
    ⟨fun f s W c d h i j a => opv rfl rfl (by simp [go_sem, a.e 4 k8_4, Joins.cell_of_block (blk_below b8_0 c) 0, Joins.cell_of_block (blk_below b8_0 c) 1, Joins.cell_of_block (blk_below b8_0 c) 2, Joins.cell_of_block (blk_below b8_0 c) 3, Joins.cell_of_block (blk_below b8_0 c) 4, Joins.cell_of_block (blk_below b8_0 c) 5, Joins.cell_of_block (blk_below b8_0 c) 6]) rfl,
  fun f s W c d h i j a => opv rfl rfl (by simp [go_sem, a.e 3 k8_3]) rfl,
  fun f s W c d h i j a => by have k := below_trans fB8 c; exact opc (args := #[.agg #[.int .i64 b.tab, .slice (a1) (b.panels.length) (c1), .int .i64 b.height, .slice (a2) (b.top.length) (c2), .slice (a3) (b.bottom.length) (c3), .int .i64 b.slot, .bool b.isOpen], .int .i64 0, .int .i64 cal]) rfl rfl (by simp [go_sem, a.e 29 (d 0 rfl), a.e 30 (d 1 rfl)]) (panR_any a1 a2 a3 c1 c2 c3 b 0 0 _ cal W (h1.below k (Nat.le_refl _)) (h2.below k (Nat.le_refl _)) (h3.below k (Nat.le_refl _)) rfl (by omega) rfl (by omega) (by omega) (by omega) (by omega)),
  fun f s W c d h i j a => opv rfl rfl (by simp [go_sem, a.e 9 k8_9]) rfl,
  fun f s W c d h i j a => opv rfl rfl (by simp [go_sem, a.e 32 (d 3 rfl), hq3, hl3]) rfl,
  fun f s W c d h i j a => by have k := below_trans fB8 c; have u3_1 : W.cell? ⟨q3, o3 + 1, none⟩ = some (.int .i64 u1) := (k.cell (p := ⟨q3, o3 + 1, none⟩) hql3).trans (by have hq_ := hqc3 1 (by omega); rw [hu1] at hq_; exact hq_); exact opv rfl rfl (by simp [go_sem, a.e 33 (d 4 rfl), u3_1]) rfl,
  fun f s W c d h i j a => opv rfl rfl (by simp [go_sem, a.e 34 (d 5 rfl), IntWalk.i64_in (1000 * u1) (by omega)]) rfl,
  fun f s W c d h i j a => opv rfl rfl (by simp [go_sem, a.e 31 (d 2 rfl), a.e 35 (d 6 rfl), IntWalk.i64_in ((panR b 0 cal) - (1000 * u1)) (by omega)]) rfl,
  fun f s W c d h i j a => opv rfl rfl (by simp [go_sem, a.e 9 k8_9]) rfl,
  fun f s W c d h i j a => opv rfl rfl (by simp [go_sem, a.e 37 (d 8 rfl), hq3, hl3]) rfl,
  fun f s W c d h i j a => by have k := below_trans fB8 c; have u3_1 : W.cell? ⟨q3, o3 + 1, none⟩ = some (.int .i64 u1) := (k.cell (p := ⟨q3, o3 + 1, none⟩) hql3).trans (by have hq_ := hqc3 1 (by omega); rw [hu1] at hq_; exact hq_); exact opv rfl rfl (by simp [go_sem, a.e 38 (d 9 rfl), u3_1]) rfl,
  fun f s W c d h i j a => opv rfl rfl (by simp [go_sem, a.e 39 (d 10 rfl), IntWalk.i64_in (1000 * u1) (by omega)]) rfl,
  fun f s W c d h i j a => opv rfl rfl (by simp [go_sem, a.e 36 (d 7 rfl), a.e 40 (d 11 rfl), IntWalk.i64_in (((panR b 0 cal) - (1000 * u1)) - (1000 * u1)) (by omega)]) rfl,
  fun f s W c d h i j a => opv rfl rfl (by simp [go_sem, a.e 41 (d 12 rfl)]) rfl, trivial⟩ ?_
   intro f10 s10 W10 hB10 g10 hg10
   have fB10 := below_trans fB8 hB10.below
   have z10 := hB10.below.size
   have b10_0 := blk_below b8_0 hB10.below
   refine hK15 _ _ ?_
   have k10_8 := kt hg10 8 (hB10.is 13)
   refine wp_ret ?_
   refine leave_one (N := 42) (v := .int .i64 (((panR b 0 cal) - (1000 * u1)) - (1000 * u1))) (.inr rfl) Tryz.results58 rfl k10_8 ?_
   exact ⟨by rw [hc5, hc13]; show _ = Ending.returned (.int .i64 ((panR b 0 cal - 1000 * (b.bottom).getD 1 0) - 1000 * (b.bottom).getD 1 0)); rw [hu1], fB10⟩
def wishRB (w : Wi) : Bool := ((((!(spanR w.length.1 w.length.2 (0) (3000))) || (!(spanR w.width.1 w.width.2 (0) (3000)))) || (!(spanR w.height.1 w.height.2 (0) (3000)))) || (!(spanR w.outer.1 w.outer.2 (-3000) (3000)))) || (!(spanR w.inner.1 w.inner.2 (-3000) (3000)))
def wishR (w : Wi) : Int := if wishRB w = true then 2 else 0
set_option maxRecDepth 100000 in
set_option maxHeartbeats 2000000 in
theorem wishR_any (l1 h1' l2 h2' l3 h3' l4 h4' l5 h5' : Int) (wo : Bool) (w : World) :
  Calls Tryz.prog 24 #[.agg #[.int .i64 l1, .int .i64 (h1'), .int .i64 l2, .int .i64 (h2'), .int .i64 l3, .int .i64 (h3'), .int .i64 l4, .int .i64 (h4'), .int .i64 l5, .int .i64 (h5'), .bool wo]] w (fun e w' => e = .returned (.int .i64 (wishR ⟨(l1, h1'), (l2, h2'), (l3, h3'), (l4, h4'), (l5, h5'), wo⟩)) ∧ Below w.heap.size w w') := by
 refine calls_fr Tryz.func24 Tryz.ntmps24 rfl rfl fun g hg => ?_
 have k0 : g 0 = .agg #[.int .i64 l1, .int .i64 (h1'), .int .i64 l2, .int .i64 (h2'), .int .i64 l3, .int .i64 (h3'), .int .i64 l4, .int .i64 (h4'), .int .i64 l5, .int .i64 (h5'), .bool wo] := hg 0
 clear hg
 have fB0 : Below w.heap.size w w := Below.refl _ _
 refine wp_seq_k fun K1 hK1 => ?_
 refine region_dk 2 [(1, 0), (2, 1)] [[], []] (rel [bx 0 #[.int .i64 l1, .int .i64 (h1'), .int .i64 l2, .int .i64 (h2'), .int .i64 l3, .int .i64 (h3'), .int .i64 l4, .int .i64 (h4'), .int .i64 l5, .int .i64 (h5'), .bool wo] 43,
   is (.int .i64 0)])
  ⟨bx_k, is_k, trivial⟩
  ⟨fun f s W b h i j k a => opb rfl rfl (by simp [go_sem, a.e 0 k0]),
  fun f s W b h i j k a => opv rfl rfl (by simp [go_sem]) rfl, trivial⟩ ?_
 intro f1 s1 W1 hB1 g1 hg1
 have fB1 := below_trans fB0 hB1.below
 have z1 := hB1.below.size
 obtain ⟨r1_0, br1_0⟩ := hB1.is 0
 have lr1_0 := hB1.lr 0 br1_0
 refine hK1 _ _ ?_
 have k1_1 := kt hg1 1 r1_0
 have k1_2 := kt hg1 2 (hB1.is 1)
 refine wp_seq_k fun K2 hK2 => ?_
 refine wp_seq_k fun K3 hK3 => ?_
 refine region_dk 28 [(3, 0), (4, 1), (5, 2), (6, 3), (7, 4), (8, 5), (9, 6), (10, 7), (11, 8), (12, 9), (13, 10), (14, 11), (15, 12), (16, 13), (17, 14), (18, 15), (19, 16), (20, 17), (21, 18), (22, 19), (23, 20), (24, 21), (25, 22), (26, 23), (27, 24), (28, 25), (29, 26), (30, 27)] [[], [0], [0, 1], [0, 1, 2], [0, 1, 2, 3], [0, 1, 2, 3, 4], [0, 1, 2, 3, 4, 5], [0, 1, 2, 3, 4, 5, 6], [0, 1, 2, 3, 4, 5, 6, 7], [0, 1, 2, 3, 4, 5, 6, 7, 8], [0, 1, 2, 3, 4, 5, 6, 7, 8, 9], [0, 1, 2, 3, 4, 5, 6, 7, 8, 9, 10], [0, 1, 2, 3, 4, 5, 6, 7, 8, 9, 10, 11], [0, 1, 2, 3, 4, 5, 6, 7, 8, 9, 10, 11, 12], [0, 1, 2, 3, 4, 5, 6, 7, 8, 9, 10, 11, 12, 13], [0, 1, 2, 3, 4, 5, 6, 7, 8, 9, 10, 11, 12, 13, 14], [0, 1, 2, 3, 4, 5, 6, 7, 8, 9, 10, 11, 12, 13, 14, 15], [0, 1, 2, 3, 4, 5, 6, 7, 8, 9, 10, 11, 12, 13, 14, 15, 16], [0, 1, 2, 3, 4, 5, 6, 7, 8, 9, 10, 11, 12, 13, 14, 15, 16, 17], [0, 1, 2, 3, 4, 5, 6, 7, 8, 9, 10, 11, 12, 13, 14, 15, 16, 17, 18], [0, 1, 2, 3, 4, 5, 6, 7, 8, 9, 10, 11, 12, 13, 14, 15, 16, 17, 18, 19], [0, 1, 2, 3, 4, 5, 6, 7, 8, 9, 10, 11, 12, 13, 14, 15, 16, 17, 18, 19, 20], [0, 1, 2, 3, 4, 5, 6, 7, 8, 9, 10, 11, 12, 13, 14, 15, 16, 17, 18, 19, 20, 21], [0, 1, 2, 3, 4, 5, 6, 7, 8, 9, 10, 11, 12, 13, 14, 15, 16, 17, 18, 19, 20, 21, 22], [0, 1, 2, 3, 4, 5, 6, 7, 8, 9, 10, 11, 12, 13, 14, 15, 16, 17, 18, 19, 20, 21, 22, 23], [0, 1, 2, 3, 4, 5, 6, 7, 8, 9, 10, 11, 12, 13, 14, 15, 16, 17, 18, 19, 20, 21, 22, 23, 24], [0, 1, 2, 3, 4, 5, 6, 7, 8, 9, 10, 11, 12, 13, 14, 15, 16, 17, 18, 19, 20, 21, 22, 23, 24, 25], [0, 1, 2, 3, 4, 5, 6, 7, 8, 9, 10, 11, 12, 13, 14, 15, 16, 17, 18, 19, 20, 21, 22, 23, 24, 25, 26]] (rel [is (.pointer (some ⟨(s1 0), 0, none⟩)),
   is (.agg #[.int .i64 l1, .int .i64 (h1')]),
   is (.bool (spanR l1 h1' (0) (3000))),
   is (.bool (!(spanR l1 h1' (0) (3000)))),
   is (.bool (!(spanR l1 h1' (0) (3000)))),
   gd (!(spanR l1 h1' (0) (3000))) false (is (.pointer (some ⟨(s1 0), 2, none⟩))),
   gd (!(spanR l1 h1' (0) (3000))) false (is (.agg #[.int .i64 l2, .int .i64 (h2')])),
   gd (!(spanR l1 h1' (0) (3000))) false (is (.bool (spanR l2 h2' (0) (3000)))),
   gd (!(spanR l1 h1' (0) (3000))) false (is (.bool (!(spanR l2 h2' (0) (3000))))),
   is (.bool ((!(spanR l1 h1' (0) (3000))) || (!(spanR l2 h2' (0) (3000))))),
   is (.bool ((!(spanR l1 h1' (0) (3000))) || (!(spanR l2 h2' (0) (3000))))),
   gd ((!(spanR l1 h1' (0) (3000))) || (!(spanR l2 h2' (0) (3000)))) false (is (.pointer (some ⟨(s1 0), 4, none⟩))),
   gd ((!(spanR l1 h1' (0) (3000))) || (!(spanR l2 h2' (0) (3000)))) false (is (.agg #[.int .i64 l3, .int .i64 (h3')])),
   gd ((!(spanR l1 h1' (0) (3000))) || (!(spanR l2 h2' (0) (3000)))) false (is (.bool (spanR l3 h3' (0) (3000)))),
   gd ((!(spanR l1 h1' (0) (3000))) || (!(spanR l2 h2' (0) (3000)))) false (is (.bool (!(spanR l3 h3' (0) (3000))))),
   is (.bool (((!(spanR l1 h1' (0) (3000))) || (!(spanR l2 h2' (0) (3000)))) || (!(spanR l3 h3' (0) (3000))))),
   is (.bool (((!(spanR l1 h1' (0) (3000))) || (!(spanR l2 h2' (0) (3000)))) || (!(spanR l3 h3' (0) (3000))))),
   gd (((!(spanR l1 h1' (0) (3000))) || (!(spanR l2 h2' (0) (3000)))) || (!(spanR l3 h3' (0) (3000)))) false (is (.pointer (some ⟨(s1 0), 6, none⟩))),
   gd (((!(spanR l1 h1' (0) (3000))) || (!(spanR l2 h2' (0) (3000)))) || (!(spanR l3 h3' (0) (3000)))) false (is (.agg #[.int .i64 l4, .int .i64 (h4')])),
   gd (((!(spanR l1 h1' (0) (3000))) || (!(spanR l2 h2' (0) (3000)))) || (!(spanR l3 h3' (0) (3000)))) false (is (.bool (spanR l4 h4' (-3000) (3000)))),
   gd (((!(spanR l1 h1' (0) (3000))) || (!(spanR l2 h2' (0) (3000)))) || (!(spanR l3 h3' (0) (3000)))) false (is (.bool (!(spanR l4 h4' (-3000) (3000))))),
   is (.bool ((((!(spanR l1 h1' (0) (3000))) || (!(spanR l2 h2' (0) (3000)))) || (!(spanR l3 h3' (0) (3000)))) || (!(spanR l4 h4' (-3000) (3000))))),
   is (.bool ((((!(spanR l1 h1' (0) (3000))) || (!(spanR l2 h2' (0) (3000)))) || (!(spanR l3 h3' (0) (3000)))) || (!(spanR l4 h4' (-3000) (3000))))),
   gd ((((!(spanR l1 h1' (0) (3000))) || (!(spanR l2 h2' (0) (3000)))) || (!(spanR l3 h3' (0) (3000)))) || (!(spanR l4 h4' (-3000) (3000)))) false (is (.pointer (some ⟨(s1 0), 8, none⟩))),
   gd ((((!(spanR l1 h1' (0) (3000))) || (!(spanR l2 h2' (0) (3000)))) || (!(spanR l3 h3' (0) (3000)))) || (!(spanR l4 h4' (-3000) (3000)))) false (is (.agg #[.int .i64 l5, .int .i64 (h5')])),
   gd ((((!(spanR l1 h1' (0) (3000))) || (!(spanR l2 h2' (0) (3000)))) || (!(spanR l3 h3' (0) (3000)))) || (!(spanR l4 h4' (-3000) (3000)))) false (is (.bool (spanR l5 h5' (-3000) (3000)))),
   gd ((((!(spanR l1 h1' (0) (3000))) || (!(spanR l2 h2' (0) (3000)))) || (!(spanR l3 h3' (0) (3000)))) || (!(spanR l4 h4' (-3000) (3000)))) false (is (.bool (!(spanR l5 h5' (-3000) (3000))))),
   is (.bool (((((!(spanR l1 h1' (0) (3000))) || (!(spanR l2 h2' (0) (3000)))) || (!(spanR l3 h3' (0) (3000)))) || (!(spanR l4 h4' (-3000) (3000)))) || (!(spanR l5 h5' (-3000) (3000)))))])
  ⟨is_k, is_k, is_k, is_k, is_k, gd_k (is_k), gd_k (is_k), gd_k (is_k), gd_k (is_k), is_k, is_k, gd_k (is_k), gd_k (is_k), gd_k (is_k), gd_k (is_k), is_k, is_k, gd_k (is_k), gd_k (is_k), gd_k (is_k), gd_k (is_k), is_k, is_k, gd_k (is_k), gd_k (is_k), gd_k (is_k), gd_k (is_k), is_k, trivial⟩
  ⟨fun f s W b h i j k a => opv rfl rfl (by simp [go_sem, a.e 1 k1_1]) rfl,
  fun f s W b h i j k a => opv rfl rfl (by simp [go_sem, a.e 3 (h 0 rfl), Joins.cell_of_block (blk_below br1_0 b) 0, Joins.cell_of_block (blk_below br1_0 b) 1]) rfl,
  fun f s W b h i j k a => opc rfl rfl (by simp [go_sem, a.e 4 (h 1 rfl)]) (spanR_any l1 h1' (0) (3000) W),
  fun f s W b h i j k a => opv rfl rfl (by simp [go_sem, a.e 5 (h 2 rfl)]) rfl,
  fun f s W b h i j k a => opv rfl rfl (by simp [go_sem, a.e 6 (h 3 rfl)]) rfl,
  fun f s W b h i j k a => gdo rfl rfl (a.says (d := 7) rfl rfl (h 4 rfl)) fun hgd0 => gv (by simp [go_sem, a.e 1 k1_1]) rfl,
  fun f s W b h i j k a => gdo rfl rfl (a.says (d := 7) rfl rfl (h 4 rfl)) fun hgd0 => gv (by simp [go_sem, a.e 8 ((h 5 rfl).1 hgd0), Joins.cell_of_block (blk_below br1_0 b) 2, Joins.cell_of_block (blk_below br1_0 b) 3]) rfl,
  fun f s W b h i j k a => gdo rfl rfl (a.says (d := 7) rfl rfl (h 4 rfl)) fun hgd0 => gc (by simp [go_sem, a.e 9 ((h 6 rfl).1 hgd0)]) (spanR_any l2 h2' (0) (3000) W),
  fun f s W b h i j k a => gdo rfl rfl (a.says (d := 7) rfl rfl (h 4 rfl)) fun hgd0 => gv (by simp [go_sem, a.e 10 ((h 7 rfl).1 hgd0)]) rfl,
  fun f s W b h i j k a => opk (c := !(spanR l1 h1' (0) (3000))) rfl rfl (fun hpk => by simp [go_sem, hpk, a.e 7 (h 4 rfl), a.e 11 ((h 8 rfl).1 hpk)]) (fun hpk => by simp [go_sem, hpk, a.e 7 (h 4 rfl)]),
  fun f s W b h i j k a => opv rfl rfl (by simp [go_sem, a.e 12 (h 9 rfl)]) rfl,
  fun f s W b h i j k a => gdo rfl rfl (a.says (d := 13) rfl rfl (h 10 rfl)) fun hgd0 => gv (by simp [go_sem, a.e 1 k1_1]) rfl,
  fun f s W b h i j k a => gdo rfl rfl (a.says (d := 13) rfl rfl (h 10 rfl)) fun hgd0 => gv (by simp [go_sem, a.e 14 ((h 11 rfl).1 hgd0), Joins.cell_of_block (blk_below br1_0 b) 4, Joins.cell_of_block (blk_below br1_0 b) 5]) rfl,
  fun f s W b h i j k a => gdo rfl rfl (a.says (d := 13) rfl rfl (h 10 rfl)) fun hgd0 => gc (by simp [go_sem, a.e 15 ((h 12 rfl).1 hgd0)]) (spanR_any l3 h3' (0) (3000) W),
  fun f s W b h i j k a => gdo rfl rfl (a.says (d := 13) rfl rfl (h 10 rfl)) fun hgd0 => gv (by simp [go_sem, a.e 16 ((h 13 rfl).1 hgd0)]) rfl,
  fun f s W b h i j k a => opk (c := (!(spanR l1 h1' (0) (3000))) || (!(spanR l2 h2' (0) (3000)))) rfl rfl (fun hpk => by simp [go_sem, hpk, a.e 13 (h 10 rfl), a.e 17 ((h 14 rfl).1 hpk)]) (fun hpk => by simp [go_sem, hpk, a.e 13 (h 10 rfl)]),
  fun f s W b h i j k a => opv rfl rfl (by simp [go_sem, a.e 18 (h 15 rfl)]) rfl,
  fun f s W b h i j k a => gdo rfl rfl (a.says (d := 19) rfl rfl (h 16 rfl)) fun hgd0 => gv (by simp [go_sem, a.e 1 k1_1]) rfl,
  fun f s W b h i j k a => gdo rfl rfl (a.says (d := 19) rfl rfl (h 16 rfl)) fun hgd0 => gv (by simp [go_sem, a.e 20 ((h 17 rfl).1 hgd0), Joins.cell_of_block (blk_below br1_0 b) 6, Joins.cell_of_block (blk_below br1_0 b) 7]) rfl,
  fun f s W b h i j k a => gdo rfl rfl (a.says (d := 19) rfl rfl (h 16 rfl)) fun hgd0 => gc (by simp [go_sem, a.e 21 ((h 18 rfl).1 hgd0)]) (spanR_any l4 h4' (-3000) (3000) W),
  fun f s W b h i j k a => gdo rfl rfl (a.says (d := 19) rfl rfl (h 16 rfl)) fun hgd0 => gv (by simp [go_sem, a.e 22 ((h 19 rfl).1 hgd0)]) rfl,
  fun f s W b h i j k a => opk (c := ((!(spanR l1 h1' (0) (3000))) || (!(spanR l2 h2' (0) (3000)))) || (!(spanR l3 h3' (0) (3000)))) rfl rfl (fun hpk => by simp [go_sem, hpk, a.e 19 (h 16 rfl), a.e 23 ((h 20 rfl).1 hpk)]) (fun hpk => by simp [go_sem, hpk, a.e 19 (h 16 rfl)]),
  fun f s W b h i j k a => opv rfl rfl (by simp [go_sem, a.e 24 (h 21 rfl)]) rfl,
  fun f s W b h i j k a => gdo rfl rfl (a.says (d := 25) rfl rfl (h 22 rfl)) fun hgd0 => gv (by simp [go_sem, a.e 1 k1_1]) rfl,
  fun f s W b h i j k a => gdo rfl rfl (a.says (d := 25) rfl rfl (h 22 rfl)) fun hgd0 => gv (by simp [go_sem, a.e 26 ((h 23 rfl).1 hgd0), Joins.cell_of_block (blk_below br1_0 b) 8, Joins.cell_of_block (blk_below br1_0 b) 9]) rfl,
  fun f s W b h i j k a => gdo rfl rfl (a.says (d := 25) rfl rfl (h 22 rfl)) fun hgd0 => gc (by simp [go_sem, a.e 27 ((h 24 rfl).1 hgd0)]) (spanR_any l5 h5' (-3000) (3000) W),
  fun f s W b h i j k a => gdo rfl rfl (a.says (d := 25) rfl rfl (h 22 rfl)) fun hgd0 => gv (by simp [go_sem, a.e 28 ((h 25 rfl).1 hgd0)]) rfl,
  fun f s W b h i j k a => opk (c := (((!(spanR l1 h1' (0) (3000))) || (!(spanR l2 h2' (0) (3000)))) || (!(spanR l3 h3' (0) (3000)))) || (!(spanR l4 h4' (-3000) (3000)))) rfl rfl (fun hpk => by simp [go_sem, hpk, a.e 25 (h 22 rfl), a.e 29 ((h 26 rfl).1 hpk)]) (fun hpk => by simp [go_sem, hpk, a.e 25 (h 22 rfl)]), trivial⟩ ?_
 intro f2 s2 W2 hB2 g2 hg2
 have fB2 := below_trans fB1 hB2.below
 have z2 := hB2.below.size
 have b2_0 := blk_below br1_0 hB2.below
 refine hK3 _ _ ?_
 have k2_2 := kt hg2 2 k1_2
 have k2_30 := kt hg2 30 (hB2.is 27)
 refine wp_cond_split (t := ((((!(spanR l1 h1' (0) (3000))) || (!(spanR l2 h2' (0) (3000)))) || (!(spanR l3 h3' (0) (3000)))) || (!(spanR l4 h4' (-3000) (3000)))) || (!(spanR l5 h5' (-3000) (3000)))) ((fr_eval rfl).trans k2_30) (fun hc4 => ?_) (fun hc4 => ?_)
 ·
  have hc4' := hc4; try simp only [decide_eq_true_eq, decide_eq_false_iff_not, Bool.and_eq_true, Bool.or_eq_true, Bool.and_eq_false_iff, Bool.or_eq_false_iff, beq_iff_eq, bne_iff_ne, Bool.not_eq_true', Bool.not_eq_false', ne_eq, bne_eq_false_iff_eq, beq_eq_false_iff_ne] at hc4'
  refine wp_seq_k fun K5 hK5 => ?_
  refine region_dk 1 [(2, 0)] [[]] (rel [is (.int .i64 2)])
   ⟨is_k, trivial⟩
   ⟨fun f s W b h i j k a => opv rfl rfl (by simp [go_sem]) rfl, trivial⟩ ?_
  intro f3 s3 W3 hB3 g3 hg3
  have fB3 := below_trans fB2 hB3.below
  have z3 := hB3.below.size
  have b3_0 := blk_below b2_0 hB3.below
  refine hK5 _ _ ?_
  have k3_2 := kt hg3 2 (hB3.is 0)
  refine wp_ret ?_
  refine then_ret ?_
  refine leave_one (N := 31) (v := .int .i64 2) (.inr rfl) Tryz.results24 rfl k3_2 ?_
  exact ⟨by rw [wishR, show wishRB ⟨(l1, h1'), (l2, h2'), (l3, h3'), (l4, h4'), (l5, h5'), wo⟩ = _ from hc4]; rfl, fB3⟩
 ·
  have hc4' := hc4; try simp only [decide_eq_true_eq, decide_eq_false_iff_not, Bool.and_eq_true, Bool.or_eq_true, Bool.and_eq_false_iff, Bool.or_eq_false_iff, beq_iff_eq, bne_iff_ne, Bool.not_eq_true', Bool.not_eq_false', ne_eq, bne_eq_false_iff_eq, beq_eq_false_iff_ne] at hc4'
  refine wp_skip ?_
  refine hK2 _ _ ?_
  refine wp_seq_k fun K6 hK6 => ?_
  refine region_dk 1 [(2, 0)] [[]] (rel [is (.int .i64 0)])
   ⟨is_k, trivial⟩
   ⟨fun f s W b h i j k a => opv rfl rfl (by simp [go_sem]) rfl, trivial⟩ ?_
  intro f4 s4 W4 hB4 g4 hg4
  have fB4 := below_trans fB2 hB4.below
  have z4 := hB4.below.size
  have b4_0 := blk_below b2_0 hB4.below
  refine hK6 _ _ ?_
  have k4_2 := kt hg4 2 (hB4.is 0)
  refine wp_ret ?_
  refine leave_one (N := 31) (v := .int .i64 0) (.inr rfl) Tryz.results24 rfl k4_2 ?_
  exact ⟨by rw [wishR, show wishRB ⟨(l1, h1'), (l2, h2'), (l3, h3'), (l4, h4'), (l5, h5'), wo⟩ = _ from hc4]; rfl, fB4⟩
def askedR (b : Bl) (w : Wi) (s : Sp) : Int := if (refCheck b != 0) = true then refCheck b else if (wishR w != 0) = true then wishR w else if (!(spanR s.1 s.2 1 10000)) = true then 3 else 0
set_option maxRecDepth 100000 in
set_option maxHeartbeats 1000000 in
theorem askedR_any (a1 a2 a3 : Option Addr) (c1 c2 c3 : Nat) (b : Bl) (l1 h1' l2 h2' l3 h3' l4 h4' l5 h5' : Int) (wo : Bool) (lo hi : Int) (w : World) (h1 : Ii w a1 b.panels.length c1 b.panels) (h2 : Ii w a2 b.top.length c2 b.top) (h3 : Ii w a3 b.bottom.length c3 b.bottom) :
  Calls Tryz.prog 25 #[.agg #[.int .i64 b.tab, .slice (a1) (b.panels.length) (c1), .int .i64 b.height, .slice (a2) (b.top.length) (c2), .slice (a3) (b.bottom.length) (c3), .int .i64 b.slot, .bool b.isOpen], .agg #[.int .i64 l1, .int .i64 (h1'), .int .i64 l2, .int .i64 (h2'), .int .i64 l3, .int .i64 (h3'), .int .i64 l4, .int .i64 (h4'), .int .i64 l5, .int .i64 (h5'), .bool wo], .agg #[.int .i64 lo, .int .i64 hi]] w (fun e w' => e = .returned (.int .i64 (askedR b ⟨(l1, h1'), (l2, h2'), (l3, h3'), (l4, h4'), (l5, h5'), wo⟩ (lo, hi))) ∧ Below w.heap.size w w') := by
 refine calls_fr Tryz.func25 Tryz.ntmps25 rfl rfl fun g hg => ?_
 have k0 : g 0 = .agg #[.int .i64 b.tab, .slice (a1) (b.panels.length) (c1), .int .i64 b.height, .slice (a2) (b.top.length) (c2), .slice (a3) (b.bottom.length) (c3), .int .i64 b.slot, .bool b.isOpen] := hg 0
 have k1 : g 1 = .agg #[.int .i64 l1, .int .i64 (h1'), .int .i64 l2, .int .i64 (h2'), .int .i64 l3, .int .i64 (h3'), .int .i64 l4, .int .i64 (h4'), .int .i64 l5, .int .i64 (h5'), .bool wo] := hg 1
 have k2 : g 2 = .agg #[.int .i64 lo, .int .i64 hi] := hg 2
 clear hg
 have fB0 : Below w.heap.size w w := Below.refl _ _
 refine wp_seq_k fun K1 hK1 => ?_
 refine region_dk 4 [(3, 0), (4, 1), (5, 2), (6, 3)] [[], [], [], []] (rel [bx 0 #[.int .i64 b.tab, .slice (a1) (b.panels.length) (c1), .int .i64 b.height, .slice (a2) (b.top.length) (c2), .slice (a3) (b.bottom.length) (c3), .int .i64 b.slot, .bool b.isOpen] 24,
   bx 1 #[.int .i64 l1, .int .i64 (h1'), .int .i64 l2, .int .i64 (h2'), .int .i64 l3, .int .i64 (h3'), .int .i64 l4, .int .i64 (h4'), .int .i64 l5, .int .i64 (h5'), .bool wo] 43,
   bx 2 #[.int .i64 lo, .int .i64 hi] 26,
   is (.int .i64 0)])
  ⟨bx_k, bx_k, bx_k, is_k, trivial⟩
  ⟨fun f s W c d h i j a => opb rfl rfl (by simp [go_sem, a.e 0 k0]),
  fun f s W c d h i j a => opb rfl rfl (by simp [go_sem, a.e 1 k1]),
  fun f s W c d h i j a => opb rfl rfl (by simp [go_sem, a.e 2 k2]),
  fun f s W c d h i j a => opv rfl rfl (by simp [go_sem]) rfl, trivial⟩ ?_
 intro f1 s1 W1 hB1 g1 hg1
 have fB1 := below_trans fB0 hB1.below
 have z1 := hB1.below.size
 obtain ⟨r1_0, br1_0⟩ := hB1.is 0
 have lr1_0 := hB1.lr 0 br1_0
 obtain ⟨r1_1, br1_1⟩ := hB1.is 1
 have lr1_1 := hB1.lr 1 br1_1
 obtain ⟨r1_2, br1_2⟩ := hB1.is 2
 have lr1_2 := hB1.lr 2 br1_2
 have ne1_0_1 := hB1.nb 0 1
 have ne1_0_2 := hB1.nb 0 2
 have ne1_1_2 := hB1.nb 1 2
 refine hK1 _ _ ?_
 have k1_3 := kt hg1 3 r1_0
 have k1_4 := kt hg1 4 r1_1
 have k1_5 := kt hg1 5 r1_2
 have k1_6 := kt hg1 6 (hB1.is 3)
 refine wp_seq_k fun K2 hK2 => ?_
 refine wp_seq_k fun K3 hK3 => ?_
 refine region_dk 3 [(9, 0), (10, 1), (7, 2)] [[], [0], [0, 1]] (rel [is (.agg #[.int .i64 b.tab, .slice (a1) (b.panels.length) (c1), .int .i64 b.height, .slice (a2) (b.top.length) (c2), .slice (a3) (b.bottom.length) (c3), .int .i64 b.slot, .bool b.isOpen]),
   is (.int .i64 ((refCheck b))),
   is (.int .i64 ((refCheck b)))])
  ⟨is_k, is_k, is_k, trivial⟩
  ⟨fun f s W c d h i j a => opv rfl rfl (by simp [go_sem, a.e 3 k1_3, Joins.cell_of_block (blk_below br1_0 c) 0, Joins.cell_of_block (blk_below br1_0 c) 1, Joins.cell_of_block (blk_below br1_0 c) 2, Joins.cell_of_block (blk_below br1_0 c) 3, Joins.cell_of_block (blk_below br1_0 c) 4, Joins.cell_of_block (blk_below br1_0 c) 5, Joins.cell_of_block (blk_below br1_0 c) 6]) rfl,
  fun f s W c d h i j a => by have k := below_trans fB1 c; exact opc rfl rfl (by simp [go_sem, a.e 9 (d 0 rfl)]) (refCheck_any a1 a2 a3 c1 c2 c3 b W (h1.below k (Nat.le_refl _)) (h2.below k (Nat.le_refl _)) (h3.below k (Nat.le_refl _))),
  fun f s W c d h i j a => opv rfl rfl (by simp [go_sem, a.e 10 (d 1 rfl)]) rfl, trivial⟩ ?_
 intro f2 s2 W2 hB2 g2 hg2
 have fB2 := below_trans fB1 hB2.below
 have z2 := hB2.below.size
 have b2_0 := blk_below br1_0 hB2.below
 have b2_1 := blk_below br1_1 hB2.below
 have b2_2 := blk_below br1_2 hB2.below
 refine hK3 _ _ ?_
 have k2_4 := kt hg2 4 k1_4
 have k2_5 := kt hg2 5 k1_5
 have k2_6 := kt hg2 6 k1_6
 have k2_7 := kt hg2 7 (hB2.is 2)
 refine wp_seq_k fun K4 hK4 => ?_
 refine region_dk 2 [(11, 0), (12, 1)] [[], [0]] (rel [is (.int .i64 ((refCheck b))),
   is (.bool ((refCheck b) != 0))])
  ⟨is_k, is_k, trivial⟩
  ⟨fun f s W c d h i j a => opv rfl rfl (by simp [go_sem, a.e 7 k2_7]) rfl,
  fun f s W c d h i j a => opv rfl rfl (by simp [go_sem, a.e 11 (d 0 rfl)]) rfl, trivial⟩ ?_
 intro f3 s3 W3 hB3 g3 hg3
 have fB3 := below_trans fB2 hB3.below
 have z3 := hB3.below.size
 have b3_0 := blk_below b2_0 hB3.below
 have b3_1 := blk_below b2_1 hB3.below
 have b3_2 := blk_below b2_2 hB3.below
 refine hK4 _ _ ?_
 have k3_4 := kt hg3 4 k2_4
 have k3_5 := kt hg3 5 k2_5
 have k3_6 := kt hg3 6 k2_6
 have k3_7 := kt hg3 7 k2_7
 have k3_12 := kt hg3 12 (hB3.is 1)
 refine wp_cond_split (t := (refCheck b) != 0) ((fr_eval rfl).trans k3_12) (fun hc5 => ?_) (fun hc5 => ?_)
 ·
  have hc5' := hc5; try simp only [decide_eq_true_eq, decide_eq_false_iff_not, Bool.and_eq_true, Bool.or_eq_true, Bool.and_eq_false_iff, Bool.or_eq_false_iff, beq_iff_eq, bne_iff_ne, Bool.not_eq_true', Bool.not_eq_false', ne_eq, bne_eq_false_iff_eq, beq_eq_false_iff_ne] at hc5'
  refine wp_seq_k fun K6 hK6 => ?_
  refine region_dk 2 [(13, 0), (6, 1)] [[], [0]] (rel [is (.int .i64 ((refCheck b))),
   is (.int .i64 ((refCheck b)))])
   ⟨is_k, is_k, trivial⟩
   ⟨fun f s W c d h i j a => opv rfl rfl (by simp [go_sem, a.e 7 k3_7]) rfl,
  fun f s W c d h i j a => opv rfl rfl (by simp [go_sem, a.e 13 (d 0 rfl)]) rfl, trivial⟩ ?_
  intro f4 s4 W4 hB4 g4 hg4
  have fB4 := below_trans fB3 hB4.below
  have z4 := hB4.below.size
  have b4_0 := blk_below b3_0 hB4.below
  have b4_1 := blk_below b3_1 hB4.below
  have b4_2 := blk_below b3_2 hB4.below
  refine hK6 _ _ ?_
  have k4_4 := kt hg4 4 k3_4
  have k4_5 := kt hg4 5 k3_5
  have k4_6 := kt hg4 6 (hB4.is 1)
  refine wp_ret ?_
  refine then_ret ?_
  refine leave_one (N := 22) (v := .int .i64 ((refCheck b))) (.inr rfl) Tryz.results25 rfl k4_6 ?_
  exact ⟨by unfold askedR; rw [if_pos hc5], fB4⟩
 ·
  have hc5' := hc5; try simp only [decide_eq_true_eq, decide_eq_false_iff_not, Bool.and_eq_true, Bool.or_eq_true, Bool.and_eq_false_iff, Bool.or_eq_false_iff, beq_iff_eq, bne_iff_ne, Bool.not_eq_true', Bool.not_eq_false', ne_eq, bne_eq_false_iff_eq, beq_eq_false_iff_ne] at hc5'
  refine wp_skip ?_
  refine hK2 _ _ ?_
  refine wp_seq_k fun K7 hK7 => ?_
  refine wp_seq_k fun K8 hK8 => ?_
  refine region_dk 3 [(14, 0), (15, 1), (8, 2)] [[], [0], [0, 1]] (rel [is (.agg #[.int .i64 l1, .int .i64 (h1'), .int .i64 l2, .int .i64 (h2'), .int .i64 l3, .int .i64 (h3'), .int .i64 l4, .int .i64 (h4'), .int .i64 l5, .int .i64 (h5'), .bool wo]),
   is (.int .i64 ((wishR ⟨(l1, h1'), (l2, h2'), (l3, h3'), (l4, h4'), (l5, h5'), wo⟩))),
   is (.int .i64 ((wishR ⟨(l1, h1'), (l2, h2'), (l3, h3'), (l4, h4'), (l5, h5'), wo⟩)))])
   ⟨is_k, is_k, is_k, trivial⟩
   ⟨fun f s W c d h i j a => opv rfl rfl (by simp [go_sem, a.e 4 k3_4, Joins.cell_of_block (blk_below b3_1 c) 0, Joins.cell_of_block (blk_below b3_1 c) 1, Joins.cell_of_block (blk_below b3_1 c) 2, Joins.cell_of_block (blk_below b3_1 c) 3, Joins.cell_of_block (blk_below b3_1 c) 4, Joins.cell_of_block (blk_below b3_1 c) 5, Joins.cell_of_block (blk_below b3_1 c) 6, Joins.cell_of_block (blk_below b3_1 c) 7, Joins.cell_of_block (blk_below b3_1 c) 8, Joins.cell_of_block (blk_below b3_1 c) 9, Joins.cell_of_block (blk_below b3_1 c) 10]) rfl,
  fun f s W c d h i j a => opc rfl rfl (by simp [go_sem, a.e 14 (d 0 rfl)]) (wishR_any l1 h1' l2 h2' l3 h3' l4 h4' l5 h5' wo W),
  fun f s W c d h i j a => opv rfl rfl (by simp [go_sem, a.e 15 (d 1 rfl)]) rfl, trivial⟩ ?_
  intro f5 s5 W5 hB5 g5 hg5
  have fB5 := below_trans fB3 hB5.below
  have z5 := hB5.below.size
  have b5_0 := blk_below b3_0 hB5.below
  have b5_1 := blk_below b3_1 hB5.below
  have b5_2 := blk_below b3_2 hB5.below
  refine hK8 _ _ ?_
  have k5_5 := kt hg5 5 k3_5
  have k5_6 := kt hg5 6 k3_6
  have k5_8 := kt hg5 8 (hB5.is 2)
  refine wp_seq_k fun K9 hK9 => ?_
  refine region_dk 2 [(16, 0), (17, 1)] [[], [0]] (rel [is (.int .i64 ((wishR ⟨(l1, h1'), (l2, h2'), (l3, h3'), (l4, h4'), (l5, h5'), wo⟩))),
   is (.bool ((wishR ⟨(l1, h1'), (l2, h2'), (l3, h3'), (l4, h4'), (l5, h5'), wo⟩) != 0))])
   ⟨is_k, is_k, trivial⟩
   ⟨fun f s W c d h i j a => opv rfl rfl (by simp [go_sem, a.e 8 k5_8]) rfl,
  fun f s W c d h i j a => opv rfl rfl (by simp [go_sem, a.e 16 (d 0 rfl)]) rfl, trivial⟩ ?_
  intro f6 s6 W6 hB6 g6 hg6
  have fB6 := below_trans fB5 hB6.below
  have z6 := hB6.below.size
  have b6_0 := blk_below b5_0 hB6.below
  have b6_1 := blk_below b5_1 hB6.below
  have b6_2 := blk_below b5_2 hB6.below
  refine hK9 _ _ ?_
  have k6_5 := kt hg6 5 k5_5
  have k6_6 := kt hg6 6 k5_6
  have k6_8 := kt hg6 8 k5_8
  have k6_17 := kt hg6 17 (hB6.is 1)
  refine wp_cond_split (t := (wishR ⟨(l1, h1'), (l2, h2'), (l3, h3'), (l4, h4'), (l5, h5'), wo⟩) != 0) ((fr_eval rfl).trans k6_17) (fun hc10 => ?_) (fun hc10 => ?_)
  ·
   have hc10' := hc10; try simp only [decide_eq_true_eq, decide_eq_false_iff_not, Bool.and_eq_true, Bool.or_eq_true, Bool.and_eq_false_iff, Bool.or_eq_false_iff, beq_iff_eq, bne_iff_ne, Bool.not_eq_true', Bool.not_eq_false', ne_eq, bne_eq_false_iff_eq, beq_eq_false_iff_ne] at hc10'
   refine wp_seq_k fun K11 hK11 => ?_
   refine region_dk 2 [(18, 0), (6, 1)] [[], [0]] (rel [is (.int .i64 ((wishR ⟨(l1, h1'), (l2, h2'), (l3, h3'), (l4, h4'), (l5, h5'), wo⟩))),
   is (.int .i64 ((wishR ⟨(l1, h1'), (l2, h2'), (l3, h3'), (l4, h4'), (l5, h5'), wo⟩)))])
    ⟨is_k, is_k, trivial⟩
    ⟨fun f s W c d h i j a => opv rfl rfl (by simp [go_sem, a.e 8 k6_8]) rfl,
  fun f s W c d h i j a => opv rfl rfl (by simp [go_sem, a.e 18 (d 0 rfl)]) rfl, trivial⟩ ?_
   intro f7 s7 W7 hB7 g7 hg7
   have fB7 := below_trans fB6 hB7.below
   have z7 := hB7.below.size
   have b7_0 := blk_below b6_0 hB7.below
   have b7_1 := blk_below b6_1 hB7.below
   have b7_2 := blk_below b6_2 hB7.below
   refine hK11 _ _ ?_
   have k7_5 := kt hg7 5 k6_5
   have k7_6 := kt hg7 6 (hB7.is 1)
   refine wp_ret ?_
   refine then_ret ?_
   refine leave_one (N := 22) (v := .int .i64 ((wishR ⟨(l1, h1'), (l2, h2'), (l3, h3'), (l4, h4'), (l5, h5'), wo⟩))) (.inr rfl) Tryz.results25 rfl k7_6 ?_
   exact ⟨by unfold askedR; rw [if_neg (by rw [hc5]; exact Bool.false_ne_true)]; rw [if_pos hc10], fB7⟩
  ·
   have hc10' := hc10; try simp only [decide_eq_true_eq, decide_eq_false_iff_not, Bool.and_eq_true, Bool.or_eq_true, Bool.and_eq_false_iff, Bool.or_eq_false_iff, beq_iff_eq, bne_iff_ne, Bool.not_eq_true', Bool.not_eq_false', ne_eq, bne_eq_false_iff_eq, beq_eq_false_iff_ne] at hc10'
   refine wp_skip ?_
   refine hK7 _ _ ?_
   refine wp_seq_k fun K12 hK12 => ?_
   refine wp_seq_k fun K13 hK13 => ?_
   refine region_dk 3 [(19, 0), (20, 1), (21, 2)] [[], [0], [0, 1]] (rel [is (.agg #[.int .i64 lo, .int .i64 hi]),
   is (.bool (spanR lo hi (1) (10000))),
   is (.bool (!(spanR lo hi (1) (10000))))])
    ⟨is_k, is_k, is_k, trivial⟩
    ⟨fun f s W c d h i j a => opv rfl rfl (by simp [go_sem, a.e 5 k6_5, Joins.cell_of_block (blk_below b6_2 c) 0, Joins.cell_of_block (blk_below b6_2 c) 1]) rfl,
  fun f s W c d h i j a => opc rfl rfl (by simp [go_sem, a.e 19 (d 0 rfl)]) (spanR_any lo hi (1) (10000) W),
  fun f s W c d h i j a => opv rfl rfl (by simp [go_sem, a.e 20 (d 1 rfl)]) rfl, trivial⟩ ?_
   intro f8 s8 W8 hB8 g8 hg8
   have fB8 := below_trans fB6 hB8.below
   have z8 := hB8.below.size
   have b8_0 := blk_below b6_0 hB8.below
   have b8_1 := blk_below b6_1 hB8.below
   have b8_2 := blk_below b6_2 hB8.below
   refine hK13 _ _ ?_
   have k8_6 := kt hg8 6 k6_6
   have k8_21 := kt hg8 21 (hB8.is 2)
   refine wp_cond_split (t := !(spanR lo hi (1) (10000))) ((fr_eval rfl).trans k8_21) (fun hc14 => ?_) (fun hc14 => ?_)
   ·
    have hc14' := hc14; try simp only [decide_eq_true_eq, decide_eq_false_iff_not, Bool.and_eq_true, Bool.or_eq_true, Bool.and_eq_false_iff, Bool.or_eq_false_iff, beq_iff_eq, bne_iff_ne, Bool.not_eq_true', Bool.not_eq_false', ne_eq, bne_eq_false_iff_eq, beq_eq_false_iff_ne] at hc14'
    refine wp_seq_k fun K15 hK15 => ?_
    refine region_dk 1 [(6, 0)] [[]] (rel [is (.int .i64 3)])
     ⟨is_k, trivial⟩
     ⟨fun f s W c d h i j a => opv rfl rfl (by simp [go_sem]) rfl, trivial⟩ ?_
    intro f9 s9 W9 hB9 g9 hg9
    have fB9 := below_trans fB8 hB9.below
    have z9 := hB9.below.size
    have b9_0 := blk_below b8_0 hB9.below
    have b9_1 := blk_below b8_1 hB9.below
    have b9_2 := blk_below b8_2 hB9.below
    refine hK15 _ _ ?_
    have k9_6 := kt hg9 6 (hB9.is 0)
    refine wp_ret ?_
    refine then_ret ?_
    refine leave_one (N := 22) (v := .int .i64 3) (.inr rfl) Tryz.results25 rfl k9_6 ?_
    exact ⟨by unfold askedR; rw [if_neg (by rw [hc5]; exact Bool.false_ne_true)]; rw [if_neg (by rw [hc10]; exact Bool.false_ne_true)]; rw [if_pos hc14], fB9⟩
   ·
    have hc14' := hc14; try simp only [decide_eq_true_eq, decide_eq_false_iff_not, Bool.and_eq_true, Bool.or_eq_true, Bool.and_eq_false_iff, Bool.or_eq_false_iff, beq_iff_eq, bne_iff_ne, Bool.not_eq_true', Bool.not_eq_false', ne_eq, bne_eq_false_iff_eq, beq_eq_false_iff_ne] at hc14'
    refine wp_skip ?_
    refine hK12 _ _ ?_
    refine wp_seq_k fun K16 hK16 => ?_
    refine region_dk 1 [(6, 0)] [[]] (rel [is (.int .i64 0)])
     ⟨is_k, trivial⟩
     ⟨fun f s W c d h i j a => opv rfl rfl (by simp [go_sem]) rfl, trivial⟩ ?_
    intro f10 s10 W10 hB10 g10 hg10
    have fB10 := below_trans fB8 hB10.below
    have z10 := hB10.below.size
    have b10_0 := blk_below b8_0 hB10.below
    have b10_1 := blk_below b8_1 hB10.below
    have b10_2 := blk_below b8_2 hB10.below
    refine hK16 _ _ ?_
    have k10_6 := kt hg10 6 (hB10.is 0)
    refine wp_ret ?_
    refine leave_one (N := 22) (v := .int .i64 0) (.inr rfl) Tryz.results25 rfl k10_6 ?_
    exact ⟨by unfold askedR; rw [if_neg (by rw [hc5]; exact Bool.false_ne_true)]; rw [if_neg (by rw [hc10]; exact Bool.false_ne_true)]; rw [if_neg (by rw [hc14]; exact Bool.false_ne_true)], fB10⟩
end Go.Proofs.YthnediamopehfaaGreat
