/- Part of the proof: what the claim leans on. -/
import Derived.Test.YthnediamopehfaaGreatZAY
set_option linter.unusedSimpArgs false
set_option linter.unusedVariables false
namespace Go.Proofs.YthnediamopehfaaGreat
open Go.RowKit
def refLens (b : Bl) : Bool := (((b.panels.length : Int) != 4) || ((b.top.length : Int) != 2)) || ((b.bottom.length : Int) != 2)
def refNums (b : Bl) : Bool := (((((!(inB b.tab 0 100)) || (!(longB b.panels 1))) || (!(inB b.height 1 3000))) || (!(longB b.top 0))) || (!(longB b.bottom 0))) || (!(inB b.slot 0 20))
def refOpen (b : Bl) : Bool := b.isOpen && ((b.top.getD 0 0 != 0) || (b.top.getD 1 0 != 0))
def refCheck (b : Bl) : Int := if refLens b = true then 4 else if refNums b = true then 2 else if refOpen b = true then 2 else 0
set_option maxRecDepth 100000 in
set_option maxHeartbeats 400000 in
theorem refCheck_any (a1 a2 a3 : Option Addr) (c1 c2 c3 : Nat) (b : Bl) (w : World) (h1 : Ii w a1 b.panels.length c1 b.panels) (h2 : Ii w a2 b.top.length c2 b.top) (h3 : Ii w a3 b.bottom.length c3 b.bottom) :
  Calls Tryz.prog 16 #[.agg #[.int .i64 b.tab, .slice (a1) (b.panels.length) (c1), .int .i64 b.height, .slice (a2) (b.top.length) (c2), .slice (a3) (b.bottom.length) (c3), .int .i64 b.slot, .bool b.isOpen]] w (fun e w' => e = .returned (.int .i64 (refCheck b)) ∧ Below w.heap.size w w') := by
 have hm1 := h1.len_le
 have hm2 := h2.len_le
 have hm3 := h3.len_le
 refine calls_fr Tryz.func16 Tryz.ntmps16 rfl rfl fun g hg => ?_
 have k0 : g 0 = .agg #[.int .i64 b.tab, .slice (a1) (b.panels.length) (c1), .int .i64 b.height, .slice (a2) (b.top.length) (c2), .slice (a3) (b.bottom.length) (c3), .int .i64 b.slot, .bool b.isOpen] := hg 0
 clear hg
 have fB0 : Below w.heap.size w w := Below.refl _ _
 refine wp_seq_k fun K1 hK1 => ?_
 refine region_dk 2 [(1, 0), (2, 1)] [[], []] (rel [bx 0 #[.int .i64 b.tab, .slice (a1) (b.panels.length) (c1), .int .i64 b.height, .slice (a2) (b.top.length) (c2), .slice (a3) (b.bottom.length) (c3), .int .i64 b.slot, .bool b.isOpen] 24,
   is (.int .i64 0)])
  ⟨bx_k, is_k, trivial⟩
  ⟨fun f s W h i j k a ha => opb rfl rfl (by simp [go_sem, ha.e 0 k0]),
  fun f s W h i j k a ha => opv rfl rfl (by simp [go_sem]) rfl, trivial⟩ ?_
 intro f1 s1 W1 hB1 g1 hg1
 have fB1 := below_trans fB0 hB1.below
 have z1 := hB1.below.size
 obtain ⟨r1_0, br1_0⟩ := hB1.is 0
 have lr1_0 := hB1.lr 0 br1_0
 refine hK1 _ _ ?_
 have k1_1 := kt hg1 1 r1_0
 have k1_2 := kt hg1 2 (hB1.is 1)
 refine wp_seq_k fun K2 hK2 => ?_
 refine wp_seq_k fun K3 hK3 => ?_
 refine region_dk 16 [(3, 0), (4, 1), (5, 2), (6, 3), (7, 4), (8, 5), (9, 6), (10, 7), (11, 8), (12, 9), (13, 10), (14, 11), (15, 12), (16, 13), (17, 14), (18, 15)] [[], [0], [0, 1], [0, 1, 2], [0, 1, 2, 3], [0, 1, 2, 3, 4], [0, 1, 2, 3, 4, 5], [0, 1, 2, 3, 4, 5, 6], [0, 1, 2, 3, 4, 5, 6, 7], [0, 1, 2, 3, 4, 5, 6, 7, 8], [0, 1, 2, 3, 4, 5, 6, 7, 8, 9], [0, 1, 2, 3, 4, 5, 6, 7, 8, 9, 10], [0, 1, 2, 3, 4, 5, 6, 7, 8, 9, 10, 11], [0, 1, 2, 3, 4, 5, 6, 7, 8, 9, 10, 11, 12], [0, 1, 2, 3, 4, 5, 6, 7, 8, 9, 10, 11, 12, 13], [0, 1, 2, 3, 4, 5, 6, 7, 8, 9, 10, 11, 12, 13, 14]] (rel [is (.pointer (some ⟨(s1 0), 1, none⟩)),
   is (.slice (a1) (b.panels.length) (c1)),
   is (.int .i64 ((b.panels.length : Int))),
   is (.bool ((b.panels.length : Int) != 4)),
   is (.bool ((b.panels.length : Int) != 4)),
   gd ((b.panels.length : Int) != 4) false (is (.pointer (some ⟨(s1 0), 3, none⟩))),
   gd ((b.panels.length : Int) != 4) false (is (.slice (a2) (b.top.length) (c2))),
   gd ((b.panels.length : Int) != 4) false (is (.int .i64 ((b.top.length : Int)))),
   gd ((b.panels.length : Int) != 4) false (is (.bool ((b.top.length : Int) != 2))),
   is (.bool (((b.panels.length : Int) != 4) || ((b.top.length : Int) != 2))),
   is (.bool (((b.panels.length : Int) != 4) || ((b.top.length : Int) != 2))),
   gd (((b.panels.length : Int) != 4) || ((b.top.length : Int) != 2)) false (is (.pointer (some ⟨(s1 0), 4, none⟩))),
   gd (((b.panels.length : Int) != 4) || ((b.top.length : Int) != 2)) false (is (.slice (a3) (b.bottom.length) (c3))),
   gd (((b.panels.length : Int) != 4) || ((b.top.length : Int) != 2)) false (is (.int .i64 ((b.bottom.length : Int)))),
   gd (((b.panels.length : Int) != 4) || ((b.top.length : Int) != 2)) false (is (.bool ((b.bottom.length : Int) != 2))),
   is (.bool ((((b.panels.length : Int) != 4) || ((b.top.length : Int) != 2)) || ((b.bottom.length : Int) != 2)))])
  ⟨is_k, is_k, is_k, is_k, is_k, gd_k (is_k), gd_k (is_k), gd_k (is_k), gd_k (is_k), is_k, is_k, gd_k (is_k), gd_k (is_k), gd_k (is_k), gd_k (is_k), is_k, trivial⟩
  ⟨fun f s W h i j k a ha => opv rfl rfl (by simp [go_sem, ha.e 1 k1_1]) rfl,
  fun f s W h i j k a ha => opv rfl rfl (by simp [go_sem, ha.e 3 (i 0 rfl), Joins.cell_of_block (blk_below br1_0 h) 1]) rfl,
  fun f s W h i j k a ha => opv rfl rfl (by simp [go_sem, ha.e 4 (i 1 rfl)]) rfl,
  fun f s W h i j k a ha => opv rfl rfl (by simp [go_sem, ha.e 5 (i 2 rfl)]) rfl,
  fun f s W h i j k a ha => opv rfl rfl (by simp [go_sem, ha.e 6 (i 3 rfl)]) rfl,
  fun f s W h i j k a ha => gdo rfl rfl (ha.says (d := 7) rfl rfl (i 4 rfl)) fun hgd0 => gv (by simp [go_sem, ha.e 1 k1_1]) rfl,
  fun f s W h i j k a ha => gdo rfl rfl (ha.says (d := 7) rfl rfl (i 4 rfl)) fun hgd0 => gv (by simp [go_sem, ha.e 8 ((i 5 rfl).1 hgd0), Joins.cell_of_block (blk_below br1_0 h) 3]) rfl,
  fun f s W h i j k a ha => gdo rfl rfl (ha.says (d := 7) rfl rfl (i 4 rfl)) fun hgd0 => gv (by simp [go_sem, ha.e 9 ((i 6 rfl).1 hgd0)]) rfl,
  fun f s W h i j k a ha => gdo rfl rfl (ha.says (d := 7) rfl rfl (i 4 rfl)) fun hgd0 => gv (by simp [go_sem, ha.e 10 ((i 7 rfl).1 hgd0)]) rfl,
  fun f s W h i j k a ha => opk (c := (b.panels.length : Int) != 4) rfl rfl (fun hpk => by first | (simp [go_sem, hpk, ha.e 7 (i 4 rfl), ha.e 11 ((i 8 rfl).1 hpk)]; done) | (have hpk' := hpk; simp at hpk'; simp [go_sem, hpk', hpk, ha.e 7 (i 4 rfl), ha.e 11 ((i 8 rfl).1 hpk)])) (fun hpk => by first | (simp [go_sem, hpk, ha.e 7 (i 4 rfl)]; done) | (have hpk' := hpk; simp at hpk'; simp [go_sem, hpk', hpk, ha.e 7 (i 4 rfl)])),
  fun f s W h i j k a ha => opv rfl rfl (by simp [go_sem, ha.e 12 (i 9 rfl)]) rfl,
  fun f s W h i j k a ha => gdo rfl rfl (ha.says (d := 13) rfl rfl (i 10 rfl)) fun hgd0 => gv (by simp [go_sem, ha.e 1 k1_1]) rfl,
  fun f s W h i j k a ha => gdo rfl rfl (ha.says (d := 13) rfl rfl (i 10 rfl)) fun hgd0 => gv (by simp [go_sem, ha.e 14 ((i 11 rfl).1 hgd0), Joins.cell_of_block (blk_below br1_0 h) 4]) rfl,
  fun f s W h i j k a ha => gdo rfl rfl (ha.says (d := 13) rfl rfl (i 10 rfl)) fun hgd0 => gv (by simp [go_sem, ha.e 15 ((i 12 rfl).1 hgd0)]) rfl,
  fun f s W h i j k a ha => gdo rfl rfl (ha.says (d := 13) rfl rfl (i 10 rfl)) fun hgd0 => gv (by simp [go_sem, ha.e 16 ((i 13 rfl).1 hgd0)]) rfl,
  fun f s W h i j k a ha => opk (c := ((b.panels.length : Int) != 4) || ((b.top.length : Int) != 2)) rfl rfl (fun hpk => by first | (simp [go_sem, hpk, ha.e 13 (i 10 rfl), ha.e 17 ((i 14 rfl).1 hpk)]; done) | (have hpk' := hpk; simp at hpk'; simp [go_sem, hpk', hpk, ha.e 13 (i 10 rfl), ha.e 17 ((i 14 rfl).1 hpk)])) (fun hpk => by first | (simp [go_sem, hpk, ha.e 13 (i 10 rfl)]; done) | (have hpk' := hpk; simp at hpk'; simp [go_sem, hpk', hpk, ha.e 13 (i 10 rfl)])), trivial⟩ ?_
 intro f2 s2 W2 hB2 g2 hg2
 have fB2 := below_trans fB1 hB2.below
 have z2 := hB2.below.size
 have b2_0 := blk_below br1_0 hB2.below
 refine hK3 _ _ ?_
 have k2_1 := kt hg2 1 k1_1
 have k2_2 := kt hg2 2 k1_2
 have k2_18 := kt hg2 18 (hB2.is 15)
 refine wp_cond_split (t := (((b.panels.length : Int) != 4) || ((b.top.length : Int) != 2)) || ((b.bottom.length : Int) != 2)) ((fr_eval rfl).trans k2_18) (fun hc4 => ?_) (fun hc4 => ?_)
 ·
  have hc4' := hc4; try simp only [decide_eq_true_eq, decide_eq_false_iff_not, Bool.and_eq_true, Bool.or_eq_true, Bool.and_eq_false_iff, Bool.or_eq_false_iff, beq_iff_eq, bne_iff_ne, Bool.not_eq_true', Bool.not_eq_false', ne_eq, bne_eq_false_iff_eq, beq_eq_false_iff_ne] at hc4'
  refine wp_seq_k fun K5 hK5 => ?_
  refine region_dk 1 [(2, 0)] [[]] (rel [is (.int .i64 4)])
   ⟨is_k, trivial⟩
   ⟨fun f s W h i j k a ha => opv rfl rfl (by simp [go_sem]) rfl, trivial⟩ ?_
  intro f3 s3 W3 hB3 g3 hg3
  have fB3 := below_trans fB2 hB3.below
  have z3 := hB3.below.size
  have b3_0 := blk_below b2_0 hB3.below
  refine hK5 _ _ ?_
  have k3_1 := kt hg3 1 k2_1
  have k3_2 := kt hg3 2 (hB3.is 0)
  refine wp_ret ?_
  refine then_ret ?_
  refine leave_one (N := 69) (v := .int .i64 4) (.inr rfl) Tryz.results16 rfl k3_2 ?_
  have t0 : refLens b = true := hc4
  exact ⟨by simp [refCheck, t0], fB3⟩
 ·
  have hc4' := hc4; try simp only [decide_eq_true_eq, decide_eq_false_iff_not, Bool.and_eq_true, Bool.or_eq_true, Bool.and_eq_false_iff, Bool.or_eq_false_iff, beq_iff_eq, bne_iff_ne, Bool.not_eq_true', Bool.not_eq_false', ne_eq, bne_eq_false_iff_eq, beq_eq_false_iff_ne] at hc4'
  have hl2 : b.top.length = 2 := by omega
  obtain ⟨q2, o2, hq2, hql2, hqc2⟩ := h2.at (by omega)
  refine wp_skip ?_
  refine hK2 _ _ ?_
  refine wp_seq_k fun K6 hK6 => ?_
  refine wp_seq_k fun K7 hK7 => ?_
  refine region_dk 34 [(19, 0), (20, 1), (21, 2), (22, 3), (23, 4), (24, 5), (25, 6), (26, 7), (27, 8), (28, 9), (29, 10), (30, 11), (31, 12), (32, 13), (33, 14), (34, 15), (35, 16), (36, 17), (37, 18), (38, 19), (39, 20), (40, 21), (41, 22), (42, 23), (43, 24), (44, 25), (45, 26), (46, 27), (47, 28), (48, 29), (49, 30), (50, 31), (51, 32), (52, 33)] [[], [0], [0, 1], [0, 1, 2], [0, 1, 2, 3], [0, 1, 2, 3, 4], [0, 1, 2, 3, 4, 5], [0, 1, 2, 3, 4, 5, 6], [0, 1, 2, 3, 4, 5, 6, 7], [0, 1, 2, 3, 4, 5, 6, 7, 8], [0, 1, 2, 3, 4, 5, 6, 7, 8, 9], [0, 1, 2, 3, 4, 5, 6, 7, 8, 9, 10], [0, 1, 2, 3, 4, 5, 6, 7, 8, 9, 10, 11], [0, 1, 2, 3, 4, 5, 6, 7, 8, 9, 10, 11, 12], [0, 1, 2, 3, 4, 5, 6, 7, 8, 9, 10, 11, 12, 13], [0, 1, 2, 3, 4, 5, 6, 7, 8, 9, 10, 11, 12, 13, 14], [0, 1, 2, 3, 4, 5, 6, 7, 8, 9, 10, 11, 12, 13, 14, 15], [0, 1, 2, 3, 4, 5, 6, 7, 8, 9, 10, 11, 12, 13, 14, 15, 16], [0, 1, 2, 3, 4, 5, 6, 7, 8, 9, 10, 11, 12, 13, 14, 15, 16, 17], [0, 1, 2, 3, 4, 5, 6, 7, 8, 9, 10, 11, 12, 13, 14, 15, 16, 17, 18], [0, 1, 2, 3, 4, 5, 6, 7, 8, 9, 10, 11, 12, 13, 14, 15, 16, 17, 18, 19], [0, 1, 2, 3, 4, 5, 6, 7, 8, 9, 10, 11, 12, 13, 14, 15, 16, 17, 18, 19, 20], [0, 1, 2, 3, 4, 5, 6, 7, 8, 9, 10, 11, 12, 13, 14, 15, 16, 17, 18, 19, 20, 21], [0, 1, 2, 3, 4, 5, 6, 7, 8, 9, 10, 11, 12, 13, 14, 15, 16, 17, 18, 19, 20, 21, 22], [0, 1, 2, 3, 4, 5, 6, 7, 8, 9, 10, 11, 12, 13, 14, 15, 16, 17, 18, 19, 20, 21, 22, 23], [0, 1, 2, 3, 4, 5, 6, 7, 8, 9, 10, 11, 12, 13, 14, 15, 16, 17, 18, 19, 20, 21, 22, 23, 24], [0, 1, 2, 3, 4, 5, 6, 7, 8, 9, 10, 11, 12, 13, 14, 15, 16, 17, 18, 19, 20, 21, 22, 23, 24, 25], [0, 1, 2, 3, 4, 5, 6, 7, 8, 9, 10, 11, 12, 13, 14, 15, 16, 17, 18, 19, 20, 21, 22, 23, 24, 25, 26], [0, 1, 2, 3, 4, 5, 6, 7, 8, 9, 10, 11, 12, 13, 14, 15, 16, 17, 18, 19, 20, 21, 22, 23, 24, 25, 26, 27], [0, 1, 2, 3, 4, 5, 6, 7, 8, 9, 10, 11, 12, 13, 14, 15, 16, 17, 18, 19, 20, 21, 22, 23, 24, 25, 26, 27, 28], [0, 1, 2, 3, 4, 5, 6, 7, 8, 9, 10, 11, 12, 13, 14, 15, 16, 17, 18, 19, 20, 21, 22, 23, 24, 25, 26, 27, 28, 29], [0, 1, 2, 3, 4, 5, 6, 7, 8, 9, 10, 11, 12, 13, 14, 15, 16, 17, 18, 19, 20, 21, 22, 23, 24, 25, 26, 27, 28, 29, 30], [0, 1, 2, 3, 4, 5, 6, 7, 8, 9, 10, 11, 12, 13, 14, 15, 16, 17, 18, 19, 20, 21, 22, 23, 24, 25, 26, 27, 28, 29, 30, 31], [0, 1, 2, 3, 4, 5, 6, 7, 8, 9, 10, 11, 12, 13, 14, 15, 16, 17, 18, 19, 20, 21, 22, 23, 24, 25, 26, 27, 28, 29, 30, 31, 32]] (rel [is (.pointer (some ⟨(s1 0), 0, none⟩)),
   is (.int .i64 b.tab),
   is (.bool (inB b.tab 0 100)),
   is (.bool (!(inB b.tab 0 100))),
   is (.bool (!(inB b.tab 0 100))),
   gd (!(inB b.tab 0 100)) false (is (.pointer (some ⟨(s1 0), 1, none⟩))),
   gd (!(inB b.tab 0 100)) false (is (.slice (a1) (b.panels.length) (c1))),
   gd (!(inB b.tab 0 100)) false (is (.bool (longB b.panels 1))),
   gd (!(inB b.tab 0 100)) false (is (.bool (!(longB b.panels 1)))),
   is (.bool ((!(inB b.tab 0 100)) || (!(longB b.panels 1)))),
   is (.bool ((!(inB b.tab 0 100)) || (!(longB b.panels 1)))),
   gd ((!(inB b.tab 0 100)) || (!(longB b.panels 1))) false (is (.pointer (some ⟨(s1 0), 2, none⟩))),
   gd ((!(inB b.tab 0 100)) || (!(longB b.panels 1))) false (is (.int .i64 b.height)),
   gd ((!(inB b.tab 0 100)) || (!(longB b.panels 1))) false (is (.bool (inB b.height 1 3000))),
   gd ((!(inB b.tab 0 100)) || (!(longB b.panels 1))) false (is (.bool (!(inB b.height 1 3000)))),
   is (.bool (((!(inB b.tab 0 100)) || (!(longB b.panels 1))) || (!(inB b.height 1 3000)))),
   is (.bool (((!(inB b.tab 0 100)) || (!(longB b.panels 1))) || (!(inB b.height 1 3000)))),
   gd (((!(inB b.tab 0 100)) || (!(longB b.panels 1))) || (!(inB b.height 1 3000))) false (is (.pointer (some ⟨(s1 0), 3, none⟩))),
   gd (((!(inB b.tab 0 100)) || (!(longB b.panels 1))) || (!(inB b.height 1 3000))) false (is (.slice (a2) (b.top.length) (c2))),
   gd (((!(inB b.tab 0 100)) || (!(longB b.panels 1))) || (!(inB b.height 1 3000))) false (is (.bool (longB b.top 0))),
   gd (((!(inB b.tab 0 100)) || (!(longB b.panels 1))) || (!(inB b.height 1 3000))) false (is (.bool (!(longB b.top 0)))),
   is (.bool ((((!(inB b.tab 0 100)) || (!(longB b.panels 1))) || (!(inB b.height 1 3000))) || (!(longB b.top 0)))),
   is (.bool ((((!(inB b.tab 0 100)) || (!(longB b.panels 1))) || (!(inB b.height 1 3000))) || (!(longB b.top 0)))),
   gd ((((!(inB b.tab 0 100)) || (!(longB b.panels 1))) || (!(inB b.height 1 3000))) || (!(longB b.top 0))) false (is (.pointer (some ⟨(s1 0), 4, none⟩))),
   gd ((((!(inB b.tab 0 100)) || (!(longB b.panels 1))) || (!(inB b.height 1 3000))) || (!(longB b.top 0))) false (is (.slice (a3) (b.bottom.length) (c3))),
   gd ((((!(inB b.tab 0 100)) || (!(longB b.panels 1))) || (!(inB b.height 1 3000))) || (!(longB b.top 0))) false (is (.bool (longB b.bottom 0))),
   gd ((((!(inB b.tab 0 100)) || (!(longB b.panels 1))) || (!(inB b.height 1 3000))) || (!(longB b.top 0))) false (is (.bool (!(longB b.bottom 0)))),
   is (.bool (((((!(inB b.tab 0 100)) || (!(longB b.panels 1))) || (!(inB b.height 1 3000))) || (!(longB b.top 0))) || (!(longB b.bottom 0)))),
   is (.bool (((((!(inB b.tab 0 100)) || (!(longB b.panels 1))) || (!(inB b.height 1 3000))) || (!(longB b.top 0))) || (!(longB b.bottom 0)))),
   gd (((((!(inB b.tab 0 100)) || (!(longB b.panels 1))) || (!(inB b.height 1 3000))) || (!(longB b.top 0))) || (!(longB b.bottom 0))) false (is (.pointer (some ⟨(s1 0), 5, none⟩))),
   gd (((((!(inB b.tab 0 100)) || (!(longB b.panels 1))) || (!(inB b.height 1 3000))) || (!(longB b.top 0))) || (!(longB b.bottom 0))) false (is (.int .i64 b.slot)),
   gd (((((!(inB b.tab 0 100)) || (!(longB b.panels 1))) || (!(inB b.height 1 3000))) || (!(longB b.top 0))) || (!(longB b.bottom 0))) false (is (.bool (inB b.slot 0 20))),
   gd (((((!(inB b.tab 0 100)) || (!(longB b.panels 1))) || (!(inB b.height 1 3000))) || (!(longB b.top 0))) || (!(longB b.bottom 0))) false (is (.bool (!(inB b.slot 0 20)))),
   is (.bool ((((((!(inB b.tab 0 100)) || (!(longB b.panels 1))) || (!(inB b.height 1 3000))) || (!(longB b.top 0))) || (!(longB b.bottom 0))) || (!(inB b.slot 0 20))))])
   ⟨is_k, is_k, is_k, is_k, is_k, gd_k (is_k), gd_k (is_k), gd_k (is_k), gd_k (is_k), is_k, is_k, gd_k (is_k), gd_k (is_k), gd_k (is_k), gd_k (is_k), is_k, is_k, gd_k (is_k), gd_k (is_k), gd_k (is_k), gd_k (is_k), is_k, is_k, gd_k (is_k), gd_k (is_k), gd_k (is_k), gd_k (is_k), is_k, is_k, gd_k (is_k), gd_k (is_k), gd_k (is_k), gd_k (is_k), is_k, trivial⟩
   ⟨fun f s W h i j k a ha => opv rfl rfl (by simp [go_sem, ha.e 1 k2_1]) rfl,
  fun f s W h i j k a ha => opv rfl rfl (by simp [go_sem, ha.e 19 (i 0 rfl), Joins.cell_of_block (blk_below b2_0 h) 0]) rfl,
  fun f s W h i j k a ha => opc (args := #[.int .i64 b.tab, .int .i64 0, .int .i64 100]) rfl rfl (by simp [go_sem, ha.e 20 (i 1 rfl)]) (in_any _ _ _ W),
  fun f s W h i j k a ha => opv rfl rfl (by simp [go_sem, ha.e 21 (i 2 rfl)]) rfl,
  fun f s W h i j k a ha => opv rfl rfl (by simp [go_sem, ha.e 22 (i 3 rfl)]) rfl,
  fun f s W h i j k a ha => gdo rfl rfl (ha.says (d := 23) rfl rfl (i 4 rfl)) fun hgd0 => gv (by simp [go_sem, ha.e 1 k2_1]) rfl,
  fun f s W h i j k a ha => gdo rfl rfl (ha.says (d := 23) rfl rfl (i 4 rfl)) fun hgd0 => gv (by simp [go_sem, ha.e 24 ((i 5 rfl).1 hgd0), Joins.cell_of_block (blk_below b2_0 h) 1]) rfl,
  fun f s W h i j k a ha => gdo rfl rfl (ha.says (d := 23) rfl rfl (i 4 rfl)) fun hgd0 => by have l := below_trans fB2 h; exact gc (args := #[.slice (a1) (b.panels.length) (c1), .int .i64 1]) (by simp [go_sem, ha.e 25 ((i 6 rfl).1 hgd0)]) (long_any _ _ b.panels 1 W (h1.below l (Nat.le_refl _))),
  fun f s W h i j k a ha => gdo rfl rfl (ha.says (d := 23) rfl rfl (i 4 rfl)) fun hgd0 => gv (by simp [go_sem, ha.e 26 ((i 7 rfl).1 hgd0)]) rfl,
  fun f s W h i j k a ha => opk (c := !(inB b.tab 0 100)) rfl rfl (fun hpk => by simp [go_sem, hpk, ha.e 23 (i 4 rfl), ha.e 27 ((i 8 rfl).1 hpk)]) (fun hpk => by simp [go_sem, hpk, ha.e 23 (i 4 rfl)]),
  fun f s W h i j k a ha => opv rfl rfl (by simp [go_sem, ha.e 28 (i 9 rfl)]) rfl,
  fun f s W h i j k a ha => gdo rfl rfl (ha.says (d := 29) rfl rfl (i 10 rfl)) fun hgd0 => gv (by simp [go_sem, ha.e 1 k2_1]) rfl,
  fun f s W h i j k a ha => gdo rfl rfl (ha.says (d := 29) rfl rfl (i 10 rfl)) fun hgd0 => gv (by simp [go_sem, ha.e 30 ((i 11 rfl).1 hgd0), Joins.cell_of_block (blk_below b2_0 h) 2]) rfl,
  fun f s W h i j k a ha => gdo rfl rfl (ha.says (d := 29) rfl rfl (i 10 rfl)) fun hgd0 => gc (args := #[.int .i64 b.height, .int .i64 1, .int .i64 3000]) (by simp [go_sem, ha.e 31 ((i 12 rfl).1 hgd0)]) (in_any _ _ _ W),
  fun f s W h i j k a ha => gdo rfl rfl (ha.says (d := 29) rfl rfl (i 10 rfl)) fun hgd0 => gv (by simp [go_sem, ha.e 32 ((i 13 rfl).1 hgd0)]) rfl,
  fun f s W h i j k a ha => opk (c := (!(inB b.tab 0 100)) || (!(longB b.panels 1))) rfl rfl (fun hpk => by simp [go_sem, hpk, ha.e 29 (i 10 rfl), ha.e 33 ((i 14 rfl).1 hpk)]) (fun hpk => by simp [go_sem, hpk, ha.e 29 (i 10 rfl)]),
  fun f s W h i j k a ha => opv rfl rfl (by simp [go_sem, ha.e 34 (i 15 rfl)]) rfl,
  fun f s W h i j k a ha => gdo rfl rfl (ha.says (d := 35) rfl rfl (i 16 rfl)) fun hgd0 => gv (by simp [go_sem, ha.e 1 k2_1]) rfl,
  fun f s W h i j k a ha => gdo rfl rfl (ha.says (d := 35) rfl rfl (i 16 rfl)) fun hgd0 => gv (by simp [go_sem, ha.e 36 ((i 17 rfl).1 hgd0), Joins.cell_of_block (blk_below b2_0 h) 3]) rfl,
  fun f s W h i j k a ha => gdo rfl rfl (ha.says (d := 35) rfl rfl (i 16 rfl)) fun hgd0 => by have l := below_trans fB2 h; exact gc (args := #[.slice (a2) (b.top.length) (c2), .int .i64 0]) (by simp [go_sem, ha.e 37 ((i 18 rfl).1 hgd0)]) (long_any _ _ b.top 0 W (h2.below l (Nat.le_refl _))),
  fun f s W h i j k a ha => gdo rfl rfl (ha.says (d := 35) rfl rfl (i 16 rfl)) fun hgd0 => gv (by simp [go_sem, ha.e 38 ((i 19 rfl).1 hgd0)]) rfl,
  fun f s W h i j k a ha => opk (c := ((!(inB b.tab 0 100)) || (!(longB b.panels 1))) || (!(inB b.height 1 3000))) rfl rfl (fun hpk => by simp [go_sem, hpk, ha.e 35 (i 16 rfl), ha.e 39 ((i 20 rfl).1 hpk)]) (fun hpk => by simp [go_sem, hpk, ha.e 35 (i 16 rfl)]),
  fun f s W h i j k a ha => opv rfl rfl (by simp [go_sem, ha.e 40 (i 21 rfl)]) rfl,
  fun f s W h i j k a ha => gdo rfl rfl (ha.says (d := 41) rfl rfl (i 22 rfl)) fun hgd0 => gv (by simp [go_sem, ha.e 1 k2_1]) rfl,
  fun f s W h i j k a ha => gdo rfl rfl (ha.says (d := 41) rfl rfl (i 22 rfl)) fun hgd0 => gv (by simp [go_sem, ha.e 42 ((i 23 rfl).1 hgd0), Joins.cell_of_block (blk_below b2_0 h) 4]) rfl,
  fun f s W h i j k a ha => gdo rfl rfl (ha.says (d := 41) rfl rfl (i 22 rfl)) fun hgd0 => by have l := below_trans fB2 h; exact gc (args := #[.slice (a3) (b.bottom.length) (c3), .int .i64 0]) (by simp [go_sem, ha.e 43 ((i 24 rfl).1 hgd0)]) (long_any _ _ b.bottom 0 W (h3.below l (Nat.le_refl _))),
  fun f s W h i j k a ha => gdo rfl rfl (ha.says (d := 41) rfl rfl (i 22 rfl)) fun hgd0 => gv (by simp [go_sem, ha.e 44 ((i 25 rfl).1 hgd0)]) rfl,
  fun f s W h i j k a ha => opk (c := (((!(inB b.tab 0 100)) || (!(longB b.panels 1))) || (!(inB b.height 1 3000))) || (!(longB b.top 0))) rfl rfl (fun hpk => by simp [go_sem, hpk, ha.e 41 (i 22 rfl), ha.e 45 ((i 26 rfl).1 hpk)]) (fun hpk => by simp [go_sem, hpk, ha.e 41 (i 22 rfl)]),
  fun f s W h i j k a ha => opv rfl rfl (by simp [go_sem, ha.e 46 (i 27 rfl)]) rfl,
  fun f s W h i j k a ha => gdo rfl rfl (ha.says (d := 47) rfl rfl (i 28 rfl)) fun hgd0 => gv (by simp [go_sem, ha.e 1 k2_1]) rfl,
  fun f s W h i j k a ha => gdo rfl rfl (ha.says (d := 47) rfl rfl (i 28 rfl)) fun hgd0 => gv (by simp [go_sem, ha.e 48 ((i 29 rfl).1 hgd0), Joins.cell_of_block (blk_below b2_0 h) 5]) rfl,
  fun f s W h i j k a ha => gdo rfl rfl (ha.says (d := 47) rfl rfl (i 28 rfl)) fun hgd0 => gc (args := #[.int .i64 b.slot, .int .i64 0, .int .i64 20]) (by simp [go_sem, ha.e 49 ((i 30 rfl).1 hgd0)]) (in_any _ _ _ W),
  fun f s W h i j k a ha => gdo rfl rfl (ha.says (d := 47) rfl rfl (i 28 rfl)) fun hgd0 => gv (by simp [go_sem, ha.e 50 ((i 31 rfl).1 hgd0)]) rfl,
  fun f s W h i j k a ha => opk (c := ((((!(inB b.tab 0 100)) || (!(longB b.panels 1))) || (!(inB b.height 1 3000))) || (!(longB b.top 0))) || (!(longB b.bottom 0))) rfl rfl (fun hpk => by simp [go_sem, hpk, ha.e 47 (i 28 rfl), ha.e 51 ((i 32 rfl).1 hpk)]) (fun hpk => by simp [go_sem, hpk, ha.e 47 (i 28 rfl)]), trivial⟩ ?_
  intro f4 s4 W4 hB4 g4 hg4
  have fB4 := below_trans fB2 hB4.below
  have z4 := hB4.below.size
  have b4_0 := blk_below b2_0 hB4.below
  refine hK7 _ _ ?_
  have k4_1 := kt hg4 1 k2_1
  have k4_2 := kt hg4 2 k2_2
  have k4_52 := kt hg4 52 (hB4.is 33)
  refine wp_cond_split (t := (((((!(inB b.tab 0 100)) || (!(longB b.panels 1))) || (!(inB b.height 1 3000))) || (!(longB b.top 0))) || (!(longB b.bottom 0))) || (!(inB b.slot 0 20))) ((fr_eval rfl).trans k4_52) (fun hc8 => ?_) (fun hc8 => ?_)
  ·
   have hc8' := hc8; try simp only [decide_eq_true_eq, decide_eq_false_iff_not, Bool.and_eq_true, Bool.or_eq_true, Bool.and_eq_false_iff, Bool.or_eq_false_iff, beq_iff_eq, bne_iff_ne, Bool.not_eq_true', Bool.not_eq_false', ne_eq, bne_eq_false_iff_eq, beq_eq_false_iff_ne] at hc8'
   refine wp_seq_k fun K9 hK9 => ?_
   refine region_dk 1 [(2, 0)] [[]] (rel [is (.int .i64 2)])
    ⟨is_k, trivial⟩
    ⟨fun f s W h i j k a ha => opv rfl rfl (by simp [go_sem]) rfl, trivial⟩ ?_
   intro f5 s5 W5 hB5 g5 hg5
   have fB5 := below_trans fB4 hB5.below
   have z5 := hB5.below.size
   have b5_0 := blk_below b4_0 hB5.below
   refine hK9 _ _ ?_
   have k5_1 := kt hg5 1 k4_1
   have k5_2 := kt hg5 2 (hB5.is 0)
   refine wp_ret ?_
   refine then_ret ?_
   refine leave_one (N := 69) (v := .int .i64 2) (.inr rfl) Tryz.results16 rfl k5_2 ?_
   have t0 : refLens b = false := hc4
   have t1 : refNums b = true := hc8
   exact ⟨by simp [refCheck, t0, t1], fB5⟩
  ·
   have hc8' := hc8; try simp only [decide_eq_true_eq, decide_eq_false_iff_not, Bool.and_eq_true, Bool.or_eq_true, Bool.and_eq_false_iff, Bool.or_eq_false_iff, beq_iff_eq, bne_iff_ne, Bool.not_eq_true', Bool.not_eq_false', ne_eq, bne_eq_false_iff_eq, beq_eq_false_iff_ne] at hc8'
   refine wp_skip ?_
   refine hK6 _ _ ?_
   refine wp_seq_k fun K10 hK10 => ?_
   refine wp_seq_k fun K11 hK11 => ?_
   refine region_dk 16 [(53, 0), (54, 1), (55, 2), (56, 3), (57, 4), (58, 5), (59, 6), (60, 7), (61, 8), (62, 9), (63, 10), (64, 11), (65, 12), (66, 13), (67, 14), (68, 15)] [[], [0], [0, 1], [0, 1, 2], [0, 1, 2, 3], [0, 1, 2, 3, 4], [0, 1, 2, 3, 4, 5], [0, 1, 2, 3, 4, 5, 6], [0, 1, 2, 3, 4, 5, 6, 7], [0, 1, 2, 3, 4, 5, 6, 7, 8], [0, 1, 2, 3, 4, 5, 6, 7, 8, 9], [0, 1, 2, 3, 4, 5, 6, 7, 8, 9, 10], [0, 1, 2, 3, 4, 5, 6, 7, 8, 9, 10, 11], [0, 1, 2, 3, 4, 5, 6, 7, 8, 9, 10, 11, 12], [0, 1, 2, 3, 4, 5, 6, 7, 8, 9, 10, 11, 12, 13], [0, 1, 2, 3, 4, 5, 6, 7, 8, 9, 10, 11, 12, 13, 14]] (rel [is (.pointer (some ⟨(s1 0), 6, none⟩)),
   is (.bool b.isOpen),
   is (.bool b.isOpen),
   gd (b.isOpen) true (is (.pointer (some ⟨(s1 0), 3, none⟩))),
   gd (b.isOpen) true (is (.slice (a2) (b.top.length) (c2))),
   gd (b.isOpen) true (is (.pointer (some ⟨q2, o2, none⟩))),
   gd (b.isOpen) true (is (.int .i64 ((b.top.getD 0 0)))),
   gd (b.isOpen) true (is (.bool ((b.top.getD 0 0) != 0))),
   gd (b.isOpen) true (is (.bool ((b.top.getD 0 0) != 0))),
   gd (b.isOpen) true (gd ((b.top.getD 0 0) != 0) false (is (.pointer (some ⟨(s1 0), 3, none⟩)))),
   gd (b.isOpen) true (gd ((b.top.getD 0 0) != 0) false (is (.slice (a2) (b.top.length) (c2)))),
   gd (b.isOpen) true (gd ((b.top.getD 0 0) != 0) false (is (.pointer (some ⟨q2, o2 + 1, none⟩)))),
   gd (b.isOpen) true (gd ((b.top.getD 0 0) != 0) false (is (.int .i64 ((b.top.getD 1 0))))),
   gd (b.isOpen) true (gd ((b.top.getD 0 0) != 0) false (is (.bool ((b.top.getD 1 0) != 0)))),
   gd (b.isOpen) true (is (.bool (((b.top.getD 0 0) != 0) || ((b.top.getD 1 0) != 0)))),
   is (.bool ((b.isOpen) && (((b.top.getD 0 0) != 0) || ((b.top.getD 1 0) != 0))))])
    ⟨is_k, is_k, is_k, gd_k (is_k), gd_k (is_k), gd_k (is_k), gd_k (is_k), gd_k (is_k), gd_k (is_k), gd_k (gd_k (is_k)), gd_k (gd_k (is_k)), gd_k (gd_k (is_k)), gd_k (gd_k (is_k)), gd_k (gd_k (is_k)), gd_k (is_k), is_k, trivial⟩
    ⟨fun f s W h i j k a ha => opv rfl rfl (by simp [go_sem, ha.e 1 k4_1]) rfl,
  fun f s W h i j k a ha => opv rfl rfl (by simp [go_sem, ha.e 53 (i 0 rfl), Joins.cell_of_block (blk_below b4_0 h) 6]) rfl,
  fun f s W h i j k a ha => opv rfl rfl (by simp [go_sem, ha.e 54 (i 1 rfl)]) rfl,
  fun f s W h i j k a ha => gdo rfl rfl (ha.says (d := 55) rfl rfl (i 2 rfl)) fun hgd0 => gv (by simp [go_sem, ha.e 1 k4_1]) rfl,
  fun f s W h i j k a ha => gdo rfl rfl (ha.says (d := 55) rfl rfl (i 2 rfl)) fun hgd0 => gv (by simp [go_sem, ha.e 56 ((i 3 rfl).1 hgd0), Joins.cell_of_block (blk_below b4_0 h) 3]) rfl,
  fun f s W h i j k a ha => gdo rfl rfl (ha.says (d := 55) rfl rfl (i 2 rfl)) fun hgd0 => gv (by simp [go_sem, ha.e 57 ((i 4 rfl).1 hgd0), hq2, hl2]) rfl,
  fun f s W h i j k a ha => gdo rfl rfl (ha.says (d := 55) rfl rfl (i 2 rfl)) fun hgd0 => by have l := below_trans fB4 h; have u0 : W.cell? ⟨q2, o2, none⟩ = some (.int .i64 (b.top.getD 0 0)) := (l.cell (p := ⟨q2, o2 + 0, none⟩) hql2).trans (hqc2 0 (by omega)); exact gv (by simp [go_sem, ha.e 58 ((i 5 rfl).1 hgd0), u0]) rfl,
  fun f s W h i j k a ha => gdo rfl rfl (ha.says (d := 55) rfl rfl (i 2 rfl)) fun hgd0 => gv (by simp [go_sem, ha.e 59 ((i 6 rfl).1 hgd0)]) rfl,
  fun f s W h i j k a ha => gdo rfl rfl (ha.says (d := 55) rfl rfl (i 2 rfl)) fun hgd0 => gv (by simp [go_sem, ha.e 60 ((i 7 rfl).1 hgd0)]) rfl,
  fun f s W h i j k a ha => gdo2 rfl rfl ha (d := 61) rfl rfl (i 8 rfl) fun hgd0 hgd1 => gv (by simp [go_sem, ha.e 1 k4_1]) rfl,
  fun f s W h i j k a ha => gdo2 rfl rfl ha (d := 61) rfl rfl (i 8 rfl) fun hgd0 hgd1 => gv (by simp [go_sem, ha.e 62 (((i 9 rfl).1 hgd0).1 hgd1), Joins.cell_of_block (blk_below b4_0 h) 3]) rfl,
  fun f s W h i j k a ha => gdo2 rfl rfl ha (d := 61) rfl rfl (i 8 rfl) fun hgd0 hgd1 => gv (by simp [go_sem, ha.e 63 (((i 10 rfl).1 hgd0).1 hgd1), hq2, hl2]) rfl,
  fun f s W h i j k a ha => gdo2 rfl rfl ha (d := 61) rfl rfl (i 8 rfl) fun hgd0 hgd1 => by have l := below_trans fB4 h; have u1 : W.cell? ⟨q2, o2 + 1, none⟩ = some (.int .i64 (b.top.getD 1 0)) := (l.cell (p := ⟨q2, o2 + 1, none⟩) hql2).trans (hqc2 1 (by omega)); exact gv (by simp [go_sem, ha.e 64 (((i 11 rfl).1 hgd0).1 hgd1), u1]) rfl,
  fun f s W h i j k a ha => gdo2 rfl rfl ha (d := 61) rfl rfl (i 8 rfl) fun hgd0 hgd1 => gv (by simp [go_sem, ha.e 65 (((i 12 rfl).1 hgd0).1 hgd1)]) rfl,
  fun f s W h i j k a ha => gdo rfl rfl (ha.says (d := 55) rfl rfl (i 2 rfl)) fun hgd0 => gk (c := (b.top.getD 0 0) != 0) (fun hpk => by first | (simp [go_sem, hpk, ha.e 61 ((i 8 rfl).1 hgd0), ha.e 66 (((i 13 rfl).1 hgd0).1 hpk)]; done) | (have hpk' := hpk; simp at hpk'; simp [go_sem, hpk', hpk, ha.e 61 ((i 8 rfl).1 hgd0), ha.e 66 (((i 13 rfl).1 hgd0).1 hpk)])) (fun hpk => by first | (simp [go_sem, hpk, ha.e 61 ((i 8 rfl).1 hgd0)]; done) | (have hpk' := hpk; simp at hpk'; simp [go_sem, hpk', hpk, ha.e 61 ((i 8 rfl).1 hgd0)])),
  fun f s W h i j k a ha => opk (c := b.isOpen) rfl rfl (fun hpk => by simp [go_sem, hpk, ha.e 55 (i 2 rfl)]) (fun hpk => by simp [go_sem, hpk, ha.e 55 (i 2 rfl), ha.e 67 ((i 14 rfl).1 hpk)]), trivial⟩ ?_
   intro f6 s6 W6 hB6 g6 hg6
   have fB6 := below_trans fB4 hB6.below
   have z6 := hB6.below.size
   have b6_0 := blk_below b4_0 hB6.below
   refine hK11 _ _ ?_
   have k6_2 := kt hg6 2 k4_2
   have k6_68 := kt hg6 68 (hB6.is 15)
   refine wp_cond_split (t := (b.isOpen) && (((b.top.getD 0 0) != 0) || ((b.top.getD 1 0) != 0))) ((fr_eval rfl).trans k6_68) (fun hc12 => ?_) (fun hc12 => ?_)
   ·
    have hc12' := hc12; try simp only [decide_eq_true_eq, decide_eq_false_iff_not, Bool.and_eq_true, Bool.or_eq_true, Bool.and_eq_false_iff, Bool.or_eq_false_iff, beq_iff_eq, bne_iff_ne, Bool.not_eq_true', Bool.not_eq_false', ne_eq, bne_eq_false_iff_eq, beq_eq_false_iff_ne] at hc12'
    refine wp_seq_k fun K13 hK13 => ?_
    refine region_dk 1 [(2, 0)] [[]] (rel [is (.int .i64 2)])
     ⟨is_k, trivial⟩
     ⟨fun f s W h i j k a ha => opv rfl rfl (by simp [go_sem]) rfl, trivial⟩ ?_
    intro f7 s7 W7 hB7 g7 hg7
    have fB7 := below_trans fB6 hB7.below
    have z7 := hB7.below.size
    have b7_0 := blk_below b6_0 hB7.below
    refine hK13 _ _ ?_
    have k7_2 := kt hg7 2 (hB7.is 0)
    refine wp_ret ?_
    refine then_ret ?_
    refine leave_one (N := 69) (v := .int .i64 2) (.inr rfl) Tryz.results16 rfl k7_2 ?_
    have t0 : refLens b = false := hc4
    have t1 : refNums b = false := hc8
    have t2 : refOpen b = true := hc12
    exact ⟨by simp [refCheck, t0, t1, t2], fB7⟩
   ·
    have hc12' := hc12; try simp only [decide_eq_true_eq, decide_eq_false_iff_not, Bool.and_eq_true, Bool.or_eq_true, Bool.and_eq_false_iff, Bool.or_eq_false_iff, beq_iff_eq, bne_iff_ne, Bool.not_eq_true', Bool.not_eq_false', ne_eq, bne_eq_false_iff_eq, beq_eq_false_iff_ne] at hc12'
    refine wp_skip ?_
    refine hK10 _ _ ?_
    refine wp_seq_k fun K14 hK14 => ?_
    refine region_dk 1 [(2, 0)] [[]] (rel [is (.int .i64 0)])
     ⟨is_k, trivial⟩
     ⟨fun f s W h i j k a ha => opv rfl rfl (by simp [go_sem]) rfl, trivial⟩ ?_
    intro f8 s8 W8 hB8 g8 hg8
    have fB8 := below_trans fB6 hB8.below
    have z8 := hB8.below.size
    have b8_0 := blk_below b6_0 hB8.below
    refine hK14 _ _ ?_
    have k8_2 := kt hg8 2 (hB8.is 0)
    refine wp_ret ?_
    refine leave_one (N := 69) (v := .int .i64 0) (.inr rfl) Tryz.results16 rfl k8_2 ?_
    have t0 : refLens b = false := hc4
    have t1 : refNums b = false := hc8
    have t2 : refOpen b = false := hc12
    exact ⟨by simp [refCheck, t0, t1, t2], fB8⟩
set_option maxRecDepth 100000 in
set_option maxHeartbeats 400000 in
theorem span_any (lo hi : Int) (w : World) :
  Calls Tryz.prog 19 #[.int .i64 lo, .int .i64 hi] w (fun e w' => e = .returned (.agg #[.int .i64 lo, .int .i64 hi]) ∧ Below w.heap.size w w') := by
 refine calls_fr Tryz.func19 Tryz.ntmps19 rfl rfl fun g hg => ?_
 have k0 : g 0 = .int .i64 lo := hg 0
 have k1 : g 1 = .int .i64 hi := hg 1
 clear hg
 have fB0 : Below w.heap.size w w := Below.refl _ _
 refine wp_seq_k fun K1 hK1 => ?_
 refine region_dk 1 [(4, 0)] [[]] (rel [bx 0 #[.int .i64 0, .int .i64 0] 26])
  ⟨bx_k, trivial⟩
  ⟨fun f s W b c d h a ha => opb rfl rfl (by simp [go_sem]), trivial⟩ ?_
 intro f1 s1 W1 hB1 g1 hg1
 have fB1 := below_trans fB0 hB1.below
 have z1 := hB1.below.size
 obtain ⟨r1_0, br1_0⟩ := hB1.is 0
 have lr1_0 := hB1.lr 0 br1_0
 refine hK1 _ _ ?_
 have k1_0 := kt hg1 0 k0
 have k1_1 := kt hg1 1 k1
 have k1_4 := kt hg1 4 r1_0
 refine wp_seq_k fun K2 hK2 => ?_
 refine region_dk 3 [(5, 0), (6, 1), (7, 2)] [[], [], [0, 1], [0, 1, 2]] (rel [is (.int .i64 lo),
   is (.int .i64 hi),
   is (.agg #[.int .i64 lo, .int .i64 hi])])
  ⟨is_k, is_k, is_k, trivial⟩
  ⟨fun f s W b c d h a ha => opv rfl rfl (by simp [go_sem, ha.e 0 k1_0]) rfl,
  fun f s W b c d h a ha => opv rfl rfl (by simp [go_sem, ha.e 1 k1_1]) rfl,
  fun f s W b c d h a ha => opv rfl rfl (by simp [go_sem, ha.e 5 (c 0 rfl), ha.e 6 (c 1 rfl)]) rfl, trivial⟩ ?_
 intro f2 s2 W2 hB2 g2 hg2
 have fB2 := below_trans fB1 hB2.below
 have z2 := hB2.below.size
 have b2_0 := blk_below br1_0 hB2.below
 have k2_4 := kt hg2 4 k1_4
 have k2_7 := kt hg2 7 (hB2.is 2)
 obtain ⟨W3, hW3⟩ : ∃ W', W' = W2.setRow (s1 0) #[.int .i64 lo, .int .i64 hi] := ⟨_, rfl⟩
 refine tail_skip (o := _) rfl ⟨rfl, rfl⟩ (run_seg hW3 (fr_ev k2_4) (fr_ev k2_7) b2_0 rfl rfl rfl rfl) ?_
 obtain ⟨fB3, nb3, ot3, z3⟩ := seg_facts hW3 fB2 b2_0 (by omega)
 clear hW3
 refine wpOps_end ?_
 refine hK2 _ _ ?_
 refine wp_ret ?_
 refine leave_gen (v := .agg #[.int .i64 lo, .int .i64 hi]) (.inr rfl) (by simp [results, Tryz.results19, go_sem, frv 8 k2_4, Joins.cell_of_block nb3 0, Joins.cell_of_block nb3 1]) ?_
 exact ⟨rfl, fB3⟩
def boxOf (long wide : Int) : Bl := ⟨35, [long, wide, long, wide], 208, [101, 101], [101, 101], 6, false⟩
set_option maxRecDepth 100000 in
set_option maxHeartbeats 400000 in
theorem box_any (long wide : Int) (w : World) :
  Calls Tryz.prog 41 #[.int .i64 long, .int .i64 wide] w (NwBlkP (boxOf long wide) w) := by
 refine calls_fr Tryz.func41 Tryz.ntmps41 rfl rfl fun g hg => ?_
 have k0 : g 0 = .int .i64 long := hg 0
 have k1 : g 1 = .int .i64 wide := hg 1
 clear hg
 have fB0 : Below w.heap.size w w := Below.refl _ _
 refine wp_seq_k fun K1 hK1 => ?_
 refine region_dk 1 [(4, 0)] [[]] (rel [bx 0 #[.int .i64 0, .slice (none) (0) (0), .int .i64 0, .slice (none) (0) (0), .slice (none) (0) (0), .int .i64 0, .bool false] 24])
  ⟨bx_k, trivial⟩
  ⟨fun f s W b c d i a ha => opb rfl rfl (by simp [go_sem]), trivial⟩ ?_
 intro f1 s1 W1 hB1 g1 hg1
 have fB1 := below_trans fB0 hB1.below
 have z1 := hB1.below.size
 obtain ⟨r1_0, br1_0⟩ := hB1.is 0
 have lr1_0 := hB1.lr 0 br1_0
 refine hK1 _ _ ?_
 have k1_0 := kt hg1 0 k0
 have k1_1 := kt hg1 1 k1
 have k1_4 := kt hg1 4 r1_0
 refine wp_seq_k fun K2 hK2 => ?_
 refine region_dk 8 [(5, 0), (6, 1), (7, 2), (8, 3), (9, 4), (10, 5), (11, 6), (12, 7)] [[], [], [], [], [0, 1, 2, 3], [], [], [0, 1, 2, 3, 4, 5, 6], [0, 1, 2, 3, 4, 5, 6, 7]] (rel [is (.int .i64 long),
   is (.int .i64 wide),
   is (.int .i64 long),
   is (.int .i64 wide),
   row 4 4 #[.int .i64 long, .int .i64 wide, .int .i64 long, .int .i64 wide] 3,
   row 5 2 #[.int .i64 101, .int .i64 101] 3,
   row 6 2 #[.int .i64 101, .int .i64 101] 3,
   isS fun s => .agg #[.int .i64 35, .slice (some ⟨(s 4), 0, none⟩) (4) (4), .int .i64 208, .slice (some ⟨(s 5), 0, none⟩) (2) (2), .slice (some ⟨(s 6), 0, none⟩) (2) (2), .int .i64 6, .bool false]])
  ⟨is_k, is_k, is_k, is_k, row_k, row_k, row_k, isS_k fun s s' e => by rw [e 4 (by simp), e 5 (by simp), e 6 (by simp)], trivial⟩
  ⟨fun f s W b c d i a ha => opv rfl rfl (by simp [go_sem, ha.e 0 k1_0]) rfl,
  fun f s W b c d i a ha => opv rfl rfl (by simp [go_sem, ha.e 1 k1_1]) rfl,
  fun f s W b c d i a ha => opv rfl rfl (by simp [go_sem, ha.e 0 k1_0]) rfl,
  fun f s W b c d i a ha => opv rfl rfl (by simp [go_sem, ha.e 1 k1_1]) rfl,
  fun f s W b c d i a ha => opr rfl rfl (by simp [go_sem, ha.e 5 (c 0 rfl), ha.e 6 (c 1 rfl), ha.e 7 (c 2 rfl), ha.e 8 (c 3 rfl)]),
  fun f s W b c d i a ha => opr rfl rfl (by simp [go_sem]),
  fun f s W b c d i a ha => opr rfl rfl (by simp [go_sem]),
  fun f s W b c d i a ha => opv rfl rfl (by simp [go_sem, ha.e 9 (c 4 rfl).1, ha.e 10 (c 5 rfl).1, ha.e 11 (c 6 rfl).1, upd]) rfl, trivial⟩ ?_
 intro f2 s2 W2 hB2 g2 hg2
 have fB2 := below_trans fB1 hB2.below
 have z2 := hB2.below.size
 have b2_0 := blk_below br1_0 hB2.below
 obtain ⟨r2_4, br2_4⟩ := hB2.is 4
 have lr2_4 := hB2.lr 4 br2_4
 obtain ⟨r2_5, br2_5⟩ := hB2.is 5
 have lr2_5 := hB2.lr 5 br2_5
 obtain ⟨r2_6, br2_6⟩ := hB2.is 6
 have lr2_6 := hB2.lr 6 br2_6
 have ne2_4_5 : s2 4 ≠ s2 5 := hB2.ne 4 5 (by decide) (by decide) (by decide) (fun _ _ _ h => lt_of_blk h.2) (fun _ _ _ h => lt_of_blk h.2)
 have ne2_4_6 : s2 4 ≠ s2 6 := hB2.ne 4 6 (by decide) (by decide) (by decide) (fun _ _ _ h => lt_of_blk h.2) (fun _ _ _ h => lt_of_blk h.2)
 have ne2_5_6 : s2 5 ≠ s2 6 := hB2.ne 5 6 (by decide) (by decide) (by decide) (fun _ _ _ h => lt_of_blk h.2) (fun _ _ _ h => lt_of_blk h.2)
 have k2_4 := kt hg2 4 k1_4
 have k2_12 := kt hg2 12 (hB2.is 7)
 obtain ⟨W3, hW3⟩ : ∃ W', W' = W2.setRow (s1 0) #[.int .i64 35, .slice (some ⟨(s2 4), 0, none⟩) (4) (4), .int .i64 208, .slice (some ⟨(s2 5), 0, none⟩) (2) (2), .slice (some ⟨(s2 6), 0, none⟩) (2) (2), .int .i64 6, .bool false] := ⟨_, rfl⟩
 refine tail_skip (o := _) rfl ⟨rfl, rfl⟩ (run_seg hW3 (fr_ev k2_4) (fr_ev k2_12) b2_0 rfl rfl rfl rfl) ?_
 obtain ⟨fB3, nb3, ot3, z3⟩ := seg_facts hW3 fB2 b2_0 (by omega)
 clear hW3
 have b3_1 := ot3 _ _ (by omega) br2_4
 have b3_2 := ot3 _ _ (by omega) br2_5
 have b3_3 := ot3 _ _ (by omega) br2_6
 refine wpOps_end ?_
 refine hK2 _ _ ?_
 refine wp_ret ?_
 refine leave_gen (v := .agg #[.int .i64 35, .slice (some ⟨(s2 4), 0, none⟩) (4) (4), .int .i64 208, .slice (some ⟨(s2 5), 0, none⟩) (2) (2), .slice (some ⟨(s2 6), 0, none⟩) (2) (2), .int .i64 6, .bool false]) (.inr rfl) (by simp [results, Tryz.results41, go_sem, frv 13 k2_4, Joins.cell_of_block nb3 0, Joins.cell_of_block nb3 1, Joins.cell_of_block nb3 2, Joins.cell_of_block nb3 3, Joins.cell_of_block nb3 4, Joins.cell_of_block nb3 5, Joins.cell_of_block nb3 6]) ?_
 exact ⟨_, rfl, ⟨_, _, _, _, _, _, rfl, ⟨ii_block (xs := [long, wide, long, wide]) b3_1 rfl rfl, by omega, lt_of_blk b3_1⟩, ⟨ii_block (xs := [101, 101]) b3_2 rfl rfl, by omega, lt_of_blk b3_2⟩, ⟨ii_block (xs := [101, 101]) b3_3 rfl rfl, by omega, lt_of_blk b3_3⟩⟩, fB3⟩
def wishV : Value := .agg #[.int .i64 300, .int .i64 301, .int .i64 200, .int .i64 201, .int .i64 200, .int .i64 202, .int .i64 (-3), .int .i64 0, .int .i64 0, .int .i64 200, .bool false]
set_option maxRecDepth 100000 in
set_option maxHeartbeats 400000 in
theorem wish2_any (w : World) :
  Calls Tryz.prog 42 #[] w (fun e w' => e = .returned wishV ∧ Below w.heap.size w w') := by
 refine calls_fr Tryz.func42 Tryz.ntmps42 rfl rfl fun g hg => ?_
 clear hg
 have fB0 : Below w.heap.size w w := Below.refl _ _
 refine wp_seq_k fun K1 hK1 => ?_
 refine region_dk 1 [(0, 0)] [[]] (rel [bx 0 #[.int .i64 0, .int .i64 0, .int .i64 0, .int .i64 0, .int .i64 0, .int .i64 0, .int .i64 0, .int .i64 0, .int .i64 0, .int .i64 0, .bool false] 43])
  ⟨bx_k, trivial⟩
  ⟨fun f s W b c d h a ha => opb rfl rfl (by simp [go_sem]), trivial⟩ ?_
 intro f1 s1 W1 hB1 g1 hg1
 have fB1 := below_trans fB0 hB1.below
 have z1 := hB1.below.size
 obtain ⟨r1_0, br1_0⟩ := hB1.is 0
 have lr1_0 := hB1.lr 0 br1_0
 refine hK1 _ _ ?_
 have k1_0 := kt hg1 0 r1_0
 refine wp_seq_k fun K2 hK2 => ?_
 refine region_dk 6 [(1, 0), (2, 1), (3, 2), (4, 3), (5, 4), (6, 5)] [[], [0], [0, 1], [0, 1, 2], [0, 1, 2, 3], [0, 1, 2, 3, 4], [0, 1, 2, 3, 4, 5]] (rel [is (.agg #[.int .i64 300, .int .i64 301]),
   is (.agg #[.int .i64 200, .int .i64 201]),
   is (.agg #[.int .i64 200, .int .i64 202]),
   is (.agg #[.int .i64 (-3), .int .i64 0]),
   is (.agg #[.int .i64 0, .int .i64 200]),
   is (.agg #[.int .i64 300, .int .i64 301, .int .i64 200, .int .i64 201, .int .i64 200, .int .i64 202, .int .i64 (-3), .int .i64 0, .int .i64 0, .int .i64 200, .bool false])])
  ⟨is_k, is_k, is_k, is_k, is_k, is_k, trivial⟩
  ⟨fun f s W b c d h a ha => opc rfl rfl (by simp [go_sem]) (span_any (300) (301) W),
  fun f s W b c d h a ha => opc rfl rfl (by simp [go_sem]) (span_any (200) (201) W),
  fun f s W b c d h a ha => opc rfl rfl (by simp [go_sem]) (span_any (200) (202) W),
  fun f s W b c d h a ha => opc rfl rfl (by simp [go_sem]) (span_any (-3) (0) W),
  fun f s W b c d h a ha => opc rfl rfl (by simp [go_sem]) (span_any (0) (200) W),
  fun f s W b c d h a ha => opv rfl rfl (by simp [go_sem, ha.e 1 (c 0 rfl), ha.e 2 (c 1 rfl), ha.e 3 (c 2 rfl), ha.e 4 (c 3 rfl), ha.e 5 (c 4 rfl)]) rfl, trivial⟩ ?_
 intro f2 s2 W2 hB2 g2 hg2
 have fB2 := below_trans fB1 hB2.below
 have z2 := hB2.below.size
 have b2_0 := blk_below br1_0 hB2.below
 have k2_0 := kt hg2 0 k1_0
 have k2_6 := kt hg2 6 (hB2.is 5)
 obtain ⟨W3, hW3⟩ : ∃ W', W' = W2.setRow (s1 0) #[.int .i64 300, .int .i64 301, .int .i64 200, .int .i64 201, .int .i64 200, .int .i64 202, .int .i64 (-3), .int .i64 0, .int .i64 0, .int .i64 200, .bool false] := ⟨_, rfl⟩
 refine tail_skip (o := _) rfl ⟨rfl, rfl⟩ (run_seg hW3 (fr_ev k2_0) (fr_ev k2_6) b2_0 rfl rfl rfl rfl) ?_
 obtain ⟨fB3, nb3, ot3, z3⟩ := seg_facts hW3 fB2 b2_0 (by omega)
 clear hW3
 refine wpOps_end ?_
 refine hK2 _ _ ?_
 refine wp_ret ?_
 refine leave_gen (v := .agg #[.int .i64 300, .int .i64 301, .int .i64 200, .int .i64 201, .int .i64 200, .int .i64 202, .int .i64 (-3), .int .i64 0, .int .i64 0, .int .i64 200, .bool false]) (.inr rfl) (by simp [results, Tryz.results42, go_sem, frv 7 k2_0, Joins.cell_of_block nb3 0, Joins.cell_of_block nb3 1, Joins.cell_of_block nb3 2, Joins.cell_of_block nb3 3, Joins.cell_of_block nb3 4, Joins.cell_of_block nb3 5, Joins.cell_of_block nb3 6, Joins.cell_of_block nb3 7, Joins.cell_of_block nb3 8, Joins.cell_of_block nb3 9, Joins.cell_of_block nb3 10]) ?_
 exact ⟨rfl, fB3⟩
def largeB (b : Bl) : Bool := (decide (10 < (b.panels.length : Int)) || decide (10 < (b.top.length : Int))) || decide (10 < (b.bottom.length : Int))
set_option maxRecDepth 100000 in
set_option maxHeartbeats 400000 in
theorem large_any (a1 a2 a3 : Option Addr) (c1 c2 c3 : Nat) (b : Bl) (w : World) (h1 : Ii w a1 b.panels.length c1 b.panels) (h2 : Ii w a2 b.top.length c2 b.top) (h3 : Ii w a3 b.bottom.length c3 b.bottom) :
  Calls Tryz.prog 11 #[.agg #[.int .i64 b.tab, .slice (a1) (b.panels.length) (c1), .int .i64 b.height, .slice (a2) (b.top.length) (c2), .slice (a3) (b.bottom.length) (c3), .int .i64 b.slot, .bool b.isOpen]] w (fun e w' => e = .returned (.bool (largeB b)) ∧ Below w.heap.size w w') := by
 have hm1 := h1.len_le
 have hm2 := h2.len_le
 have hm3 := h3.len_le
 refine calls_fr Tryz.func11 Tryz.ntmps11 rfl rfl fun g hg => ?_
 have k0 : g 0 = .agg #[.int .i64 b.tab, .slice (a1) (b.panels.length) (c1), .int .i64 b.height, .slice (a2) (b.top.length) (c2), .slice (a3) (b.bottom.length) (c3), .int .i64 b.slot, .bool b.isOpen] := hg 0
 clear hg
 have fB0 : Below w.heap.size w w := Below.refl _ _
 refine wp_seq_k fun K1 hK1 => ?_
 refine region_dk 2 [(1, 0), (2, 1)] [[], []] (rel [bx 0 #[.int .i64 b.tab, .slice (a1) (b.panels.length) (c1), .int .i64 b.height, .slice (a2) (b.top.length) (c2), .slice (a3) (b.bottom.length) (c3), .int .i64 b.slot, .bool b.isOpen] 24,
   is (.bool false)])
  ⟨bx_k, is_k, trivial⟩
  ⟨fun f s W h i j k a ha => opb rfl rfl (by simp [go_sem, ha.e 0 k0]),
  fun f s W h i j k a ha => opv rfl rfl (by simp [go_sem]) rfl, trivial⟩ ?_
 intro f1 s1 W1 hB1 g1 hg1
 have fB1 := below_trans fB0 hB1.below
 have z1 := hB1.below.size
 obtain ⟨r1_0, br1_0⟩ := hB1.is 0
 have lr1_0 := hB1.lr 0 br1_0
 refine hK1 _ _ ?_
 have k1_1 := kt hg1 1 r1_0
 have k1_2 := kt hg1 2 (hB1.is 1)
 refine wp_seq_k fun K2 hK2 => ?_
 refine region_dk 17 [(3, 0), (4, 1), (5, 2), (6, 3), (7, 4), (8, 5), (9, 6), (10, 7), (11, 8), (12, 9), (13, 10), (14, 11), (15, 12), (16, 13), (17, 14), (18, 15), (2, 16)] [[], [0], [0, 1], [0, 1, 2], [0, 1, 2, 3], [0, 1, 2, 3, 4], [0, 1, 2, 3, 4, 5], [0, 1, 2, 3, 4, 5, 6], [0, 1, 2, 3, 4, 5, 6, 7], [0, 1, 2, 3, 4, 5, 6, 7, 8], [0, 1, 2, 3, 4, 5, 6, 7, 8, 9], [0, 1, 2, 3, 4, 5, 6, 7, 8, 9, 10], [0, 1, 2, 3, 4, 5, 6, 7, 8, 9, 10, 11], [0, 1, 2, 3, 4, 5, 6, 7, 8, 9, 10, 11, 12], [0, 1, 2, 3, 4, 5, 6, 7, 8, 9, 10, 11, 12, 13], [0, 1, 2, 3, 4, 5, 6, 7, 8, 9, 10, 11, 12, 13, 14], [0, 1, 2, 3, 4, 5, 6, 7, 8, 9, 10, 11, 12, 13, 14, 15]] (rel [is (.pointer (some ⟨(s1 0), 1, none⟩)),
   is (.slice (a1) (b.panels.length) (c1)),
   is (.int .i64 ((b.panels.length : Int))),
   is (.bool (decide (10 < (b.panels.length : Int)))),
   is (.bool (decide (10 < (b.panels.length : Int)))),
   gd (decide (10 < (b.panels.length : Int))) false (is (.pointer (some ⟨(s1 0), 3, none⟩))),
   gd (decide (10 < (b.panels.length : Int))) false (is (.slice (a2) (b.top.length) (c2))),
   gd (decide (10 < (b.panels.length : Int))) false (is (.int .i64 ((b.top.length : Int)))),
   gd (decide (10 < (b.panels.length : Int))) false (is (.bool (decide (10 < (b.top.length : Int))))),
   is (.bool ((decide (10 < (b.panels.length : Int))) || (decide (10 < (b.top.length : Int))))),
   is (.bool ((decide (10 < (b.panels.length : Int))) || (decide (10 < (b.top.length : Int))))),
   gd ((decide (10 < (b.panels.length : Int))) || (decide (10 < (b.top.length : Int)))) false (is (.pointer (some ⟨(s1 0), 4, none⟩))),
   gd ((decide (10 < (b.panels.length : Int))) || (decide (10 < (b.top.length : Int)))) false (is (.slice (a3) (b.bottom.length) (c3))),
   gd ((decide (10 < (b.panels.length : Int))) || (decide (10 < (b.top.length : Int)))) false (is (.int .i64 ((b.bottom.length : Int)))),
   gd ((decide (10 < (b.panels.length : Int))) || (decide (10 < (b.top.length : Int)))) false (is (.bool (decide (10 < (b.bottom.length : Int))))),
   is (.bool (((decide (10 < (b.panels.length : Int))) || (decide (10 < (b.top.length : Int)))) || (decide (10 < (b.bottom.length : Int))))),
   is (.bool (((decide (10 < (b.panels.length : Int))) || (decide (10 < (b.top.length : Int)))) || (decide (10 < (b.bottom.length : Int)))))])
  ⟨is_k, is_k, is_k, is_k, is_k, gd_k (is_k), gd_k (is_k), gd_k (is_k), gd_k (is_k), is_k, is_k, gd_k (is_k), gd_k (is_k), gd_k (is_k), gd_k (is_k), is_k, is_k, trivial⟩
  ⟨fun f s W h i j k a ha => opv rfl rfl (by simp [go_sem, ha.e 1 k1_1]) rfl,
  fun f s W h i j k a ha => opv rfl rfl (by simp [go_sem, ha.e 3 (i 0 rfl), Joins.cell_of_block (blk_below br1_0 h) 1]) rfl,
  fun f s W h i j k a ha => opv rfl rfl (by simp [go_sem, ha.e 4 (i 1 rfl)]) rfl,
  fun f s W h i j k a ha => opv rfl rfl (by simp [go_sem, ha.e 5 (i 2 rfl)]) rfl,
  fun f s W h i j k a ha => opv rfl rfl (by simp [go_sem, ha.e 6 (i 3 rfl)]) rfl,
  fun f s W h i j k a ha => gdo rfl rfl (ha.says (d := 7) rfl rfl (i 4 rfl)) fun hgd0 => gv (by simp [go_sem, ha.e 1 k1_1]) rfl,
  fun f s W h i j k a ha => gdo rfl rfl (ha.says (d := 7) rfl rfl (i 4 rfl)) fun hgd0 => gv (by simp [go_sem, ha.e 8 ((i 5 rfl).1 hgd0), Joins.cell_of_block (blk_below br1_0 h) 3]) rfl,
  fun f s W h i j k a ha => gdo rfl rfl (ha.says (d := 7) rfl rfl (i 4 rfl)) fun hgd0 => gv (by simp [go_sem, ha.e 9 ((i 6 rfl).1 hgd0)]) rfl,
  fun f s W h i j k a ha => gdo rfl rfl (ha.says (d := 7) rfl rfl (i 4 rfl)) fun hgd0 => gv (by simp [go_sem, ha.e 10 ((i 7 rfl).1 hgd0)]) rfl,
  fun f s W h i j k a ha => opk (c := decide (10 < (b.panels.length : Int))) rfl rfl (fun hpk => by first | (simp [go_sem, hpk, ha.e 7 (i 4 rfl), ha.e 11 ((i 8 rfl).1 hpk)]; done) | (have hpk' := hpk; simp at hpk'; simp [go_sem, hpk', hpk, ha.e 7 (i 4 rfl), ha.e 11 ((i 8 rfl).1 hpk)])) (fun hpk => by first | (simp [go_sem, hpk, ha.e 7 (i 4 rfl)]; done) | (have hpk' := hpk; simp at hpk'; simp [go_sem, hpk', hpk, ha.e 7 (i 4 rfl)])),
  fun f s W h i j k a ha => opv rfl rfl (by simp [go_sem, ha.e 12 (i 9 rfl)]) rfl,
  fun f s W h i j k a ha => gdo rfl rfl (ha.says (d := 13) rfl rfl (i 10 rfl)) fun hgd0 => gv (by simp [go_sem, ha.e 1 k1_1]) rfl,
  fun f s W h i j k a ha => gdo rfl rfl (ha.says (d := 13) rfl rfl (i 10 rfl)) fun hgd0 => gv (by simp [go_sem, ha.e 14 ((i 11 rfl).1 hgd0), Joins.cell_of_block (blk_below br1_0 h) 4]) rfl,
  fun f s W h i j k a ha => gdo rfl rfl (ha.says (d := 13) rfl rfl (i 10 rfl)) fun hgd0 => gv (by simp [go_sem, ha.e 15 ((i 12 rfl).1 hgd0)]) rfl,
  fun f s W h i j k a ha => gdo rfl rfl (ha.says (d := 13) rfl rfl (i 10 rfl)) fun hgd0 => gv (by simp [go_sem, ha.e 16 ((i 13 rfl).1 hgd0)]) rfl,
  fun f s W h i j k a ha => opk (c := (decide (10 < (b.panels.length : Int))) || (decide (10 < (b.top.length : Int)))) rfl rfl (fun hpk => by first | (simp [go_sem, hpk, ha.e 13 (i 10 rfl), ha.e 17 ((i 14 rfl).1 hpk)]; done) | (have hpk' := hpk; simp at hpk'; simp [go_sem, hpk', hpk, ha.e 13 (i 10 rfl), ha.e 17 ((i 14 rfl).1 hpk)])) (fun hpk => by first | (simp [go_sem, hpk, ha.e 13 (i 10 rfl)]; done) | (have hpk' := hpk; simp at hpk'; simp [go_sem, hpk', hpk, ha.e 13 (i 10 rfl)])),
  fun f s W h i j k a ha => opv rfl rfl (by simp [go_sem, ha.e 18 (i 15 rfl)]) rfl, trivial⟩ ?_
 intro f2 s2 W2 hB2 g2 hg2
 have fB2 := below_trans fB1 hB2.below
 have z2 := hB2.below.size
 have b2_0 := blk_below br1_0 hB2.below
 refine hK2 _ _ ?_
 have k2_2 := kt hg2 2 (hB2.is 16)
 refine wp_ret ?_
 refine leave_one (N := 19) (v := .bool (((decide (10 < (b.panels.length : Int))) || (decide (10 < (b.top.length : Int)))) || (decide (10 < (b.bottom.length : Int))))) (.inr rfl) Tryz.results11 rfl k2_2 ?_
 exact ⟨rfl, fB2⟩
set_option maxRecDepth 100000 in
set_option maxHeartbeats 400000 in
theorem own_any (a1 a2 a3 : Option Addr) (c1 c2 c3 : Nat) (b : Bl) (w : World) (h1 : Ii w a1 b.panels.length c1 b.panels) (h2 : Ii w a2 b.top.length c2 b.top) (h3 : Ii w a3 b.bottom.length c3 b.bottom) (n1 : b.panels.length ≤ 1000) (n2 : b.top.length ≤ 1000) (n3 : b.bottom.length ≤ 1000) :
  Calls Tryz.prog 13 #[.agg #[.int .i64 b.tab, .slice (a1) (b.panels.length) (c1), .int .i64 b.height, .slice (a2) (b.top.length) (c2), .slice (a3) (b.bottom.length) (c3), .int .i64 b.slot, .bool b.isOpen]] w (NwBlkP b w) := by
 refine calls_fr Tryz.func13 Tryz.ntmps13 rfl rfl fun g hg => ?_
 have k0 : g 0 = .agg #[.int .i64 b.tab, .slice (a1) (b.panels.length) (c1), .int .i64 b.height, .slice (a2) (b.top.length) (c2), .slice (a3) (b.bottom.length) (c3), .int .i64 b.slot, .bool b.isOpen] := hg 0
 clear hg
 have fB0 : Below w.heap.size w w := Below.refl _ _
 refine wp_seq_k fun K1 hK1 => ?_
 refine region_dk 2 [(1, 0), (2, 1)] [[], []] (rel [bx 0 #[.int .i64 b.tab, .slice (a1) (b.panels.length) (c1), .int .i64 b.height, .slice (a2) (b.top.length) (c2), .slice (a3) (b.bottom.length) (c3), .int .i64 b.slot, .bool b.isOpen] 24,
   bx 1 #[.int .i64 0, .slice (none) (0) (0), .int .i64 0, .slice (none) (0) (0), .slice (none) (0) (0), .int .i64 0, .bool false] 24])
  ⟨bx_k, bx_k, trivial⟩
  ⟨fun f s W c d i j a ha => opb rfl rfl (by simp [go_sem, ha.e 0 k0]),
  fun f s W c d i j a ha => opb rfl rfl (by simp [go_sem]), trivial⟩ ?_
 intro f1 s1 W1 hB1 g1 hg1
 have fB1 := below_trans fB0 hB1.below
 have z1 := hB1.below.size
 obtain ⟨r1_0, br1_0⟩ := hB1.is 0
 have lr1_0 := hB1.lr 0 br1_0
 obtain ⟨r1_1, br1_1⟩ := hB1.is 1
 have lr1_1 := hB1.lr 1 br1_1
 have ne1_0_1 : s1 0 ≠ s1 1 := hB1.ne 0 1 (by decide) (by decide) (by decide) (fun _ _ _ h => lt_of_blk h.2) (fun _ _ _ h => lt_of_blk h.2)
 refine hK1 _ _ ?_
 have k1_1 := kt hg1 1 r1_0
 have k1_2 := kt hg1 2 r1_1
 refine wp_seq_k fun K2 hK2 => ?_
 refine region_dk 2 [(3, 0), (4, 1)] [[], [0], [0, 1]] (rel [is (.agg #[.int .i64 b.tab, .slice (a1) (b.panels.length) (c1), .int .i64 b.height, .slice (a2) (b.top.length) (c2), .slice (a3) (b.bottom.length) (c3), .int .i64 b.slot, .bool b.isOpen]),
   fun v s W => NwBlk (s 1) (b) v W])
  ⟨is_k, ⟨fun v k W W' hb h => h.below hb, fun v s s' W e h => by have h' : NwBlk (s 1) (b) v W := h; show NwBlk (s' 1) (b) v W; rw [← e 1 (by simp)]; exact h'⟩, trivial⟩
  ⟨fun f s W c d i j a ha => opv rfl rfl (by simp [go_sem, ha.e 1 k1_1, Joins.cell_of_block (blk_below br1_0 c) 0, Joins.cell_of_block (blk_below br1_0 c) 1, Joins.cell_of_block (blk_below br1_0 c) 2, Joins.cell_of_block (blk_below br1_0 c) 3, Joins.cell_of_block (blk_below br1_0 c) 4, Joins.cell_of_block (blk_below br1_0 c) 5, Joins.cell_of_block (blk_below br1_0 c) 6]) rfl,
  fun f s W c d i j a ha => by have l := below_trans fB1 c; exact opDo_call rfl rfl (by simp [go_sem, ha.e 3 (d 0 rfl)]) (copy_any a1 a2 a3 c1 c2 c3 b W (h1.below l (Nat.le_refl _)) (h2.below l (Nat.le_refl _)) (h3.below l (Nat.le_refl _)) n1 n2 n3) (fun e W' h => by obtain ⟨v, e1, h1, h2⟩ := h; exact ⟨v, e1, h2, (show NwBlk (upd s 1 W.heap.size 1) (b) v W' from by rw [upd_at]; exact h1)⟩), trivial⟩ ?_
 intro f2 s2 W2 hB2 g2 hg2
 have fB2 := below_trans fB1 hB2.below
 have z2 := hB2.below.size
 have b2_0 := blk_below br1_0 hB2.below
 have b2_1 := blk_below br1_1 hB2.below
 obtain ⟨g1', c4', g2', c5', g3', c6', r2_1, ⟨q7', q9', q8'⟩, ⟨q10', q12', q11'⟩, ⟨q13', q15', q14'⟩⟩ := hB2.is 1
 have la2_1 := hB2.from' 1 (by decide)
 have k2_2 := kt hg2 2 k1_2
 have k2_4 := kt hg2 4 r2_1
 obtain ⟨W3, hW3⟩ : ∃ W', W' = W2.setRow (s1 1) #[.int .i64 b.tab, .slice (some ⟨g1', 0, none⟩) (b.panels.length) (c4'), .int .i64 b.height, .slice (some ⟨g2', 0, none⟩) (b.top.length) (c5'), .slice (some ⟨g3', 0, none⟩) (b.bottom.length) (c6'), .int .i64 b.slot, .bool b.isOpen] := ⟨_, rfl⟩
 refine tail_skip (o := _) rfl ⟨rfl, rfl⟩ (run_seg hW3 (fr_ev k2_2) (fr_ev k2_4) b2_1 rfl rfl rfl rfl) ?_
 obtain ⟨fB3, nb3, ot3, z3⟩ := seg_facts hW3 fB2 b2_1 (by omega)
 clear hW3
 have b3_0 := ot3 _ _ (by omega) b2_0
 have q16' := (q7'.other ot3 q8' (by omega) z3)
 have q17' := Nat.lt_of_lt_of_le q8' z3
 have q18' := (q10'.other ot3 q11' (by omega) z3)
 have q19' := Nat.lt_of_lt_of_le q11' z3
 have q20' := (q13'.other ot3 q14' (by omega) z3)
 have q21' := Nat.lt_of_lt_of_le q14' z3
 refine wpOps_end ?_
 refine hK2 _ _ ?_
 refine wp_ret ?_
 refine leave_gen (v := .agg #[.int .i64 b.tab, .slice (some ⟨g1', 0, none⟩) (b.panels.length) (c4'), .int .i64 b.height, .slice (some ⟨g2', 0, none⟩) (b.top.length) (c5'), .slice (some ⟨g3', 0, none⟩) (b.bottom.length) (c6'), .int .i64 b.slot, .bool b.isOpen]) (.inr rfl) (by simp [results, Tryz.results13, go_sem, frv 5 k2_2, Joins.cell_of_block nb3 0, Joins.cell_of_block nb3 1, Joins.cell_of_block nb3 2, Joins.cell_of_block nb3 3, Joins.cell_of_block nb3 4, Joins.cell_of_block nb3 5, Joins.cell_of_block nb3 6]) ?_
 exact ⟨_, rfl, ⟨_, _, _, _, _, _, rfl, ⟨q16', by omega, q17'⟩, ⟨q18', by omega, q19'⟩, ⟨q20', by omega, q21'⟩⟩, fB3⟩
end Go.Proofs.YthnediamopehfaaGreat
