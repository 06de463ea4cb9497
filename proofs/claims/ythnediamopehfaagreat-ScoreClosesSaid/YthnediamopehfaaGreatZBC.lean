/- Part of the proof: what the claim leans on. -/
import Derived.Test.YthnediamopehfaaGreatZAZ
import Derived.Deep.AppendLies
import Derived.Test.YthnediamopehfaaGreatZAT
set_option linter.unusedSimpArgs false
set_option linter.unusedVariables false
namespace Go.Proofs.YthnediamopehfaaGreat
open Go.RowKit
def spanR (lo hi least most : Int) : Bool := inB lo least hi && decide (hi ≤ most)
set_option maxRecDepth 100000 in
set_option maxHeartbeats 400000 in
theorem spanR_any (lo hi least most : Int) (w : World) :
  Calls Tryz.prog 17 #[.agg #[.int .i64 lo, .int .i64 hi], .int .i64 least, .int .i64 most] w (fun e w' => e = .returned (.bool (spanR lo hi least most)) ∧ Below w.heap.size w w') := by
 refine calls_fr Tryz.func17 Tryz.ntmps17 rfl rfl fun g hg => ?_
 have k0 : g 0 = .agg #[.int .i64 lo, .int .i64 hi] := hg 0
 have k1 : g 1 = .int .i64 least := hg 1
 have k2 : g 2 = .int .i64 most := hg 2
 clear hg
 have fB0 : Below w.heap.size w w := Below.refl _ _
 refine wp_seq_k fun K1 hK1 => ?_
 refine region_dk 2 [(3, 0), (6, 1)] [[], []] (rel [bx 0 #[.int .i64 lo, .int .i64 hi] 26,
   is (.bool false)])
  ⟨bx_k, is_k, trivial⟩
  ⟨fun f s W b h i j k a => opb rfl rfl (by simp [go_sem, a.e 0 k0]),
  fun f s W b h i j k a => opv rfl rfl (by simp [go_sem]) rfl, trivial⟩ ?_
 intro f1 s1 W1 hB1 g1 hg1
 have fB1 := below_trans fB0 hB1.below
 have z1 := hB1.below.size
 obtain ⟨r1_0, br1_0⟩ := hB1.is 0
 have lr1_0 := hB1.lr 0 br1_0
 refine hK1 _ _ ?_
 have k1_1 := kt hg1 1 k1
 have k1_2 := kt hg1 2 k2
 have k1_3 := kt hg1 3 r1_0
 have k1_6 := kt hg1 6 (hB1.is 1)
 refine wp_seq_k fun K2 hK2 => ?_
 refine region_dk 13 [(7, 0), (8, 1), (9, 2), (10, 3), (11, 4), (12, 5), (13, 6), (14, 7), (15, 8), (16, 9), (17, 10), (18, 11), (6, 12)] [[], [0], [], [], [3], [0, 1, 2, 3, 4], [0, 1, 2, 3, 4, 5], [0, 1, 2, 3, 4, 5, 6], [0, 1, 2, 3, 4, 5, 6, 7], [0, 1, 2, 3, 4, 5, 6], [0, 1, 2, 3, 4, 5, 6, 7, 8, 9], [0, 1, 2, 3, 4, 5, 6, 7, 8, 9, 10], [0, 1, 2, 3, 4, 5, 6, 7, 8, 9, 10, 11]] (rel [is (.pointer (some ⟨(s1 0), 0, none⟩)),
   is (.int .i64 lo),
   is (.int .i64 least),
   is (.pointer (some ⟨(s1 0), 1, none⟩)),
   is (.int .i64 hi),
   is (.bool (inB lo least hi)),
   is (.bool (inB lo least hi)),
   gd (inB lo least hi) true (is (.pointer (some ⟨(s1 0), 1, none⟩))),
   gd (inB lo least hi) true (is (.int .i64 hi)),
   gd (inB lo least hi) true (is (.int .i64 most)),
   gd (inB lo least hi) true (is (.bool (decide (hi ≤ most)))),
   is (.bool ((inB lo least hi) && (decide (hi ≤ most)))),
   is (.bool ((inB lo least hi) && (decide (hi ≤ most))))])
  ⟨is_k, is_k, is_k, is_k, is_k, is_k, is_k, gd_k (is_k), gd_k (is_k), gd_k (is_k), gd_k (is_k), is_k, is_k, trivial⟩
  ⟨fun f s W b h i j k a => opv rfl rfl (by simp [go_sem, a.e 3 k1_3]) rfl,
  fun f s W b h i j k a => opv rfl rfl (by simp [go_sem, a.e 7 (h 0 rfl), Joins.cell_of_block (blk_below br1_0 b) 0]) rfl,
  fun f s W b h i j k a => opv rfl rfl (by simp [go_sem, a.e 1 k1_1]) rfl,
  fun f s W b h i j k a => opv rfl rfl (by simp [go_sem, a.e 3 k1_3]) rfl,
  fun f s W b h i j k a => opv rfl rfl (by simp [go_sem, a.e 10 (h 3 rfl), Joins.cell_of_block (blk_below br1_0 b) 1]) rfl,
  fun f s W b h i j k a => opc rfl rfl (by simp [go_sem, a.e 8 (h 1 rfl), a.e 9 (h 2 rfl), a.e 11 (h 4 rfl)]) (in_any lo least hi W),
  fun f s W b h i j k a => opv rfl rfl (by simp [go_sem, a.e 12 (h 5 rfl)]) rfl,
  fun f s W b h i j k a => gdo rfl rfl (a.says (d := 13) rfl rfl (h 6 rfl)) fun hgd0 => gv (by simp [go_sem, a.e 3 k1_3]) rfl,
  fun f s W b h i j k a => gdo rfl rfl (a.says (d := 13) rfl rfl (h 6 rfl)) fun hgd0 => gv (by simp [go_sem, a.e 14 ((h 7 rfl).1 hgd0), Joins.cell_of_block (blk_below br1_0 b) 1]) rfl,
  fun f s W b h i j k a => gdo rfl rfl (a.says (d := 13) rfl rfl (h 6 rfl)) fun hgd0 => gv (by simp [go_sem, a.e 2 k1_2]) rfl,
  fun f s W b h i j k a => gdo rfl rfl (a.says (d := 13) rfl rfl (h 6 rfl)) fun hgd0 => gv (by simp [go_sem, a.e 15 ((h 8 rfl).1 hgd0), a.e 16 ((h 9 rfl).1 hgd0)]) rfl,
  fun f s W b h i j k a => opk (c := inB lo least hi) rfl rfl (fun hpk => by simp [go_sem, hpk, a.e 13 (h 6 rfl)]) (fun hpk => by simp [go_sem, hpk, a.e 13 (h 6 rfl), a.e 17 ((h 10 rfl).1 hpk)]),
  fun f s W b h i j k a => opv rfl rfl (by simp [go_sem, a.e 18 (h 11 rfl)]) rfl, trivial⟩ ?_
 intro f2 s2 W2 hB2 g2 hg2
 have fB2 := below_trans fB1 hB2.below
 have z2 := hB2.below.size
 have b2_0 := blk_below br1_0 hB2.below
 refine hK2 _ _ ?_
 have k2_6 := kt hg2 6 (hB2.is 12)
 refine wp_ret ?_
 refine leave_one (N := 19) (v := .bool ((inB lo least hi) && (decide (hi ≤ most)))) (.inr rfl) Tryz.results17 rfl k2_6 ?_
 exact ⟨rfl, fB2⟩
def panR (b : Bl) (k : Nat) (c : Int) : Int := 1000 * b.panels.getD k 0 - c
set_option maxRecDepth 100000 in
set_option maxHeartbeats 400000 in
theorem panR_any (a1 a2 a3 : Option Addr) (c1 c2 c3 : Nat) (b : Bl) (k : Nat) (ki x cal : Int) (w : World) (h1 : Ii w a1 b.panels.length c1 b.panels) (h2 : Ii w a2 b.top.length c2 b.top) (h3 : Ii w a3 b.bottom.length c3 b.bottom) (hki : ki = (k : Int)) (hk : k < b.panels.length) (hx : b.panels.getD k 0 = x) (hx1 : -100000 ≤ x) (hx2 : x ≤ 100000) (hy1 : -100000000 ≤ cal) (hy2 : cal ≤ 100000000) :
  Calls Tryz.prog 56 #[.agg #[.int .i64 b.tab, .slice (a1) (b.panels.length) (c1), .int .i64 b.height, .slice (a2) (b.top.length) (c2), .slice (a3) (b.bottom.length) (c3), .int .i64 b.slot, .bool b.isOpen], .int .i64 ki, .int .i64 cal] w (fun e w' => e = .returned (.int .i64 (panR b k cal)) ∧ Below w.heap.size w w') := by
 have hm1 := h1.len_le
 obtain ⟨q1, o1, hq1, hql1, hqc1⟩ := h1.at (by omega)
 refine calls_fr Tryz.func56 Tryz.ntmps56 rfl rfl fun g hg => ?_
 have k0 : g 0 = .agg #[.int .i64 b.tab, .slice (a1) (b.panels.length) (c1), .int .i64 b.height, .slice (a2) (b.top.length) (c2), .slice (a3) (b.bottom.length) (c3), .int .i64 b.slot, .bool b.isOpen] := hg 0
 have k1 : g 1 = .int .i64 ki := hg 1
 have k2 : g 2 = .int .i64 cal := hg 2
 clear hg
 have fB0 : Below w.heap.size w w := Below.refl _ _
 refine wp_seq_k fun K1 hK1 => ?_
 refine region_dk 2 [(3, 0), (6, 1)] [[], []] (rel [bx 0 #[.int .i64 b.tab, .slice (a1) (b.panels.length) (c1), .int .i64 b.height, .slice (a2) (b.top.length) (c2), .slice (a3) (b.bottom.length) (c3), .int .i64 b.slot, .bool b.isOpen] 24,
   is (.int .i64 0)])
  ⟨bx_k, is_k, trivial⟩
  ⟨fun f s W c d h i j a => opb rfl rfl (by simp [go_sem, a.e 0 k0]),
  fun f s W c d h i j a => opv rfl rfl (by simp [go_sem]) rfl, trivial⟩ ?_
 intro f1 s1 W1 hB1 g1 hg1
 have fB1 := below_trans fB0 hB1.below
 have z1 := hB1.below.size
 obtain ⟨r1_0, br1_0⟩ := hB1.is 0
 have lr1_0 := hB1.lr 0 br1_0
 refine hK1 _ _ ?_
 have k1_1 := kt hg1 1 k1
 have k1_2 := kt hg1 2 k2
 have k1_3 := kt hg1 3 r1_0
 have k1_6 := kt hg1 6 (hB1.is 1)
 refine wp_seq_k fun K2 hK2 => ?_
 refine region_dk 9 [(7, 0), (8, 1), (9, 2), (10, 3), (11, 4), (12, 5), (13, 6), (14, 7), (6, 8)] [[], [0], [], [0, 1, 2], [0, 1, 2, 3], [0, 1, 2, 3, 4], [], [0, 1, 2, 3, 4, 5, 6], [0, 1, 2, 3, 4, 5, 6, 7]] (rel [is (.pointer (some ⟨(s1 0), 1, none⟩)),
   is (.slice (a1) (b.panels.length) (c1)),
   is (.int .i64 ki),
   is (.pointer (some ⟨q1, o1 + k, none⟩)),
   is (.int .i64 x),
   is (.int .i64 (1000 * x)),
   is (.int .i64 cal),
   is (.int .i64 ((1000 * x) - cal)),
   is (.int .i64 ((1000 * x) - cal))])
  ⟨is_k, is_k, is_k, is_k, is_k, is_k, is_k, is_k, is_k, trivial⟩
  ⟨fun f s W c d h i j a => opv rfl rfl (by simp [go_sem, a.e 3 k1_3]) rfl,
  fun f s W c d h i j a => opv rfl rfl (by simp [go_sem, a.e 7 (d 0 rfl), Joins.cell_of_block (blk_below br1_0 c) 1]) rfl,
  fun f s W c d h i j a => opv rfl rfl (by simp [go_sem, a.e 1 k1_1]) rfl,
  fun f s W c d h i j a => opv rfl rfl (by simp [go_sem, a.e 8 (d 1 rfl), a.e 9 (d 2 rfl), hq1, hki, hk]) rfl,
  fun f s W c d h i j a => by have l := below_trans fB1 c; have u1 : W.cell? ⟨q1, o1 + k, none⟩ = some (.int .i64 x) := (l.cell (p := ⟨q1, o1 + k, none⟩) hql1).trans (by rw [hqc1 k hk, hx]); exact opv rfl rfl (by simp [go_sem, a.e 10 (d 3 rfl), u1]) rfl,
  fun f s W c d h i j a => opv rfl rfl (by simp [go_sem, a.e 11 (d 4 rfl), IntWalk.i64_in (1000 * x) (by omega)]) rfl,
  fun f s W c d h i j a => opv rfl rfl (by simp [go_sem, a.e 2 k1_2]) rfl,
  fun f s W c d h i j a => opv rfl rfl (by simp [go_sem, a.e 12 (d 5 rfl), a.e 13 (d 6 rfl), IntWalk.i64_in ((1000 * x) - cal) (by omega)]) rfl,
  fun f s W c d h i j a => opv rfl rfl (by simp [go_sem, a.e 14 (d 7 rfl)]) rfl, trivial⟩ ?_
 intro f2 s2 W2 hB2 g2 hg2
 have fB2 := below_trans fB1 hB2.below
 have z2 := hB2.below.size
 have b2_0 := blk_below br1_0 hB2.below
 refine hK2 _ _ ?_
 have k2_6 := kt hg2 6 (hB2.is 8)
 refine wp_ret ?_
 refine leave_one (N := 15) (v := .int .i64 ((1000 * x) - cal)) (.inr rfl) Tryz.results56 rfl k2_6 ?_
 exact ⟨by rw [panR, hx], fB2⟩
def heightR (b : Bl) (c : Int) : Int := if b.isOpen = true then 1000 * b.height - c else 1000 * b.height - c - c
set_option maxRecDepth 100000 in
set_option maxHeartbeats 400000 in
theorem heightR_any (a1 a2 a3 : Option Addr) (c1 c2 c3 : Nat) (b : Bl) (cal : Int) (w : World) (h1 : Ii w a1 b.panels.length c1 b.panels) (h2 : Ii w a2 b.top.length c2 b.top) (h3 : Ii w a3 b.bottom.length c3 b.bottom) (hx1 : -100000 ≤ b.height) (hx2 : b.height ≤ 100000) (hy1 : -100000000 ≤ cal) (hy2 : cal ≤ 100000000) :
  Calls Tryz.prog 57 #[.agg #[.int .i64 b.tab, .slice (a1) (b.panels.length) (c1), .int .i64 b.height, .slice (a2) (b.top.length) (c2), .slice (a3) (b.bottom.length) (c3), .int .i64 b.slot, .bool b.isOpen], .int .i64 cal] w (fun e w' => e = .returned (.int .i64 (heightR b cal)) ∧ Below w.heap.size w w') := by
 refine calls_fr Tryz.func57 Tryz.ntmps57 rfl rfl fun g hg => ?_
 have k0 : g 0 = .agg #[.int .i64 b.tab, .slice (a1) (b.panels.length) (c1), .int .i64 b.height, .slice (a2) (b.top.length) (c2), .slice (a3) (b.bottom.length) (c3), .int .i64 b.slot, .bool b.isOpen] := hg 0
 have k1 : g 1 = .int .i64 cal := hg 1
 clear hg
 have fB0 : Below w.heap.size w w := Below.refl _ _
 refine wp_seq_k fun K1 hK1 => ?_
 refine region_dk 2 [(2, 0), (4, 1)] [[], []] (rel [bx 0 #[.int .i64 b.tab, .slice (a1) (b.panels.length) (c1), .int .i64 b.height, .slice (a2) (b.top.length) (c2), .slice (a3) (b.bottom.length) (c3), .int .i64 b.slot, .bool b.isOpen] 24,
   is (.int .i64 0)])
  ⟨bx_k, is_k, trivial⟩
  ⟨fun f s W c d h i j a => opb rfl rfl (by simp [go_sem, a.e 0 k0]),
  fun f s W c d h i j a => opv rfl rfl (by simp [go_sem]) rfl, trivial⟩ ?_
 intro f1 s1 W1 hB1 g1 hg1
 have fB1 := below_trans fB0 hB1.below
 have z1 := hB1.below.size
 obtain ⟨r1_0, br1_0⟩ := hB1.is 0
 have lr1_0 := hB1.lr 0 br1_0
 refine hK1 _ _ ?_
 have k1_1 := kt hg1 1 k1
 have k1_2 := kt hg1 2 r1_0
 have k1_4 := kt hg1 4 (hB1.is 1)
 refine wp_seq_k fun K2 hK2 => ?_
 refine wp_seq_k fun K3 hK3 => ?_
 refine region_dk 2 [(5, 0), (6, 1)] [[], [0]] (rel [is (.pointer (some ⟨(s1 0), 6, none⟩)),
   is (.bool b.isOpen)])
  ⟨is_k, is_k, trivial⟩
  ⟨fun f s W c d h i j a => opv rfl rfl (by simp [go_sem, a.e 2 k1_2]) rfl,
  fun f s W c d h i j a => opv rfl rfl (by simp [go_sem, a.e 5 (d 0 rfl), Joins.cell_of_block (blk_below br1_0 c) 6]) rfl, trivial⟩ ?_
 intro f2 s2 W2 hB2 g2 hg2
 have fB2 := below_trans fB1 hB2.below
 have z2 := hB2.below.size
 have b2_0 := blk_below br1_0 hB2.below
 refine hK3 _ _ ?_
 have k2_1 := kt hg2 1 k1_1
 have k2_2 := kt hg2 2 k1_2
 have k2_4 := kt hg2 4 k1_4
 have k2_6 := kt hg2 6 (hB2.is 1)
 refine wp_cond_split (t := b.isOpen) ((fr_eval rfl).trans k2_6) (fun hc4 => ?_) (fun hc4 => ?_)
 ·
  have hc4' := hc4; try simp only [decide_eq_true_eq, decide_eq_false_iff_not, Bool.and_eq_true, Bool.or_eq_true, Bool.and_eq_false_iff, Bool.or_eq_false_iff, beq_iff_eq, bne_iff_ne, Bool.not_eq_true', Bool.not_eq_false', ne_eq, bne_eq_false_iff_eq, beq_eq_false_iff_ne] at hc4'
  refine wp_seq_k fun K5 hK5 => ?_
  refine region_dk 6 [(7, 0), (8, 1), (9, 2), (10, 3), (11, 4), (4, 5)] [[], [0], [0, 1], [], [0, 1, 2, 3], [0, 1, 2, 3, 4]] (rel [is (.pointer (some ⟨(s1 0), 2, none⟩)),
   is (.int .i64 b.height),
   is (.int .i64 (1000 * b.height)),
   is (.int .i64 cal),
   is (.int .i64 ((1000 * b.height) - cal)),
   is (.int .i64 ((1000 * b.height) - cal))])
   ⟨is_k, is_k, is_k, is_k, is_k, is_k, trivial⟩
   ⟨fun f s W c d h i j a => opv rfl rfl (by simp [go_sem, a.e 2 k2_2]) rfl,
  fun f s W c d h i j a => opv rfl rfl (by simp [go_sem, a.e 7 (d 0 rfl), Joins.cell_of_block (blk_below b2_0 c) 2]) rfl,
  fun f s W c d h i j a => opv rfl rfl (by simp [go_sem, a.e 8 (d 1 rfl), IntWalk.i64_in (1000 * b.height) (by omega)]) rfl,
  fun f s W c d h i j a => opv rfl rfl (by simp [go_sem, a.e 1 k2_1]) rfl,
  fun f s W c d h i j a => opv rfl rfl (by simp [go_sem, a.e 9 (d 2 rfl), a.e 10 (d 3 rfl), IntWalk.i64_in ((1000 * b.height) - cal) (by omega)]) rfl,
  fun f s W c d h i j a => opv rfl rfl (by simp [go_sem, a.e 11 (d 4 rfl)]) rfl, trivial⟩ ?_
  intro f3 s3 W3 hB3 g3 hg3
  have fB3 := below_trans fB2 hB3.below
  have z3 := hB3.below.size
  have b3_0 := blk_below b2_0 hB3.below
  refine hK5 _ _ ?_
  have k3_1 := kt hg3 1 k2_1
  have k3_2 := kt hg3 2 k2_2
  have k3_4 := kt hg3 4 (hB3.is 5)
  refine wp_ret ?_
  refine then_ret ?_
  refine leave_one (N := 19) (v := .int .i64 ((1000 * b.height) - cal)) (.inr rfl) Tryz.results57 rfl k3_4 ?_
  exact ⟨by rw [heightR, if_pos hc4], fB3⟩
 ·
  have hc4' := hc4; try simp only [decide_eq_true_eq, decide_eq_false_iff_not, Bool.and_eq_true, Bool.or_eq_true, Bool.and_eq_false_iff, Bool.or_eq_false_iff, beq_iff_eq, bne_iff_ne, Bool.not_eq_true', Bool.not_eq_false', ne_eq, bne_eq_false_iff_eq, beq_eq_false_iff_ne] at hc4'
  refine wp_skip ?_
  refine hK2 _ _ ?_
  refine wp_seq_k fun K6 hK6 => ?_
  refine region_dk 8 [(12, 0), (13, 1), (14, 2), (15, 3), (16, 4), (17, 5), (18, 6), (4, 7)] [[], [0], [0, 1], [], [0, 1, 2, 3], [], [0, 1, 2, 3, 4, 5], [0, 1, 2, 3, 4, 5, 6]] (rel [is (.pointer (some ⟨(s1 0), 2, none⟩)),
   is (.int .i64 b.height),
   is (.int .i64 (1000 * b.height)),
   is (.int .i64 cal),
   is (.int .i64 ((1000 * b.height) - cal)),
   is (.int .i64 cal),
   is (.int .i64 (((1000 * b.height) - cal) - cal)),
   is (.int .i64 (((1000 * b.height) - cal) - cal))])
   ⟨is_k, is_k, is_k, is_k, is_k, is_k, is_k, is_k, trivial⟩
   ⟨fun f s W c d h i j a => opv rfl rfl (by simp [go_sem, a.e 2 k2_2]) rfl,
  fun f s W c d h i j a => opv rfl rfl (by simp [go_sem, a.e 12 (d 0 rfl), Joins.cell_of_block (blk_below b2_0 c) 2]) rfl,
  fun f s W c d h i j a => opv rfl rfl (by simp [go_sem, a.e 13 (d 1 rfl), IntWalk.i64_in (1000 * b.height) (by omega)]) rfl,
  fun f s W c d h i j a => opv rfl rfl (by simp [go_sem, a.e 1 k2_1]) rfl,
  fun f s W c d h i j a => opv rfl rfl (by simp [go_sem, a.e 14 (d 2 rfl), a.e 15 (d 3 rfl), IntWalk.i64_in ((1000 * b.height) - cal) (by omega)]) rfl,
  fun f s W c d h i j a => opv rfl rfl (by simp [go_sem, a.e 1 k2_1]) rfl,
  fun f s W c d h i j a => opv rfl rfl (by simp [go_sem, a.e 16 (d 4 rfl), a.e 17 (d 5 rfl), IntWalk.i64_in (((1000 * b.height) - cal) - cal) (by omega)]) rfl,
  fun f s W c d h i j a => opv rfl rfl (by simp [go_sem, a.e 18 (d 6 rfl)]) rfl, trivial⟩ ?_
  intro f4 s4 W4 hB4 g4 hg4
  have fB4 := below_trans fB2 hB4.below
  have z4 := hB4.below.size
  have b4_0 := blk_below b2_0 hB4.below
  refine hK6 _ _ ?_
  have k4_4 := kt hg4 4 (hB4.is 7)
  refine wp_ret ?_
  refine leave_one (N := 19) (v := .int .i64 (((1000 * b.height) - cal) - cal)) (.inr rfl) Tryz.results57 rfl k4_4 ?_
  exact ⟨by rw [heightR, if_neg (by rw [hc4]; decide)], fB4⟩
end Go.Proofs.YthnediamopehfaaGreat
namespace Go.Proofs.YthnediamopehfaaGreat
open Go.RowKit
theorem tail_value2 {P : Program} {ops : Array Oper} {Q : Exit → Act → World → Prop} {i m N d : Nat} {g : Nat → Value} {W W' : World} {o : Oper} {v : Value} (ho : ops[i]? = some o) (hg : o.guard = none) (hd : o.dst = some d) (hr : (execOp (fr N g).eval o).run P W = .ok (.value v) W')
    (h : wpOps P ops Q (List.range' (i + 1) m) (fr N (upd g d v)) W') : wpOps P ops Q (List.range' i (m + 1)) (fr N g) W := by
  rw [List.range'_succ, wpOps_cons]
  unfold wpOp
  simp only [ho, Region.wanted, hg, if_true]
  refine .inl ?_
  unfold Oper.wp
  rw [hr]
  simp only [Oper.upon, hd]
  rw [fr_put]; exact h
end Go.Proofs.YthnediamopehfaaGreat
namespace Go.Proofs.YthnediamopehfaaGreat
theorem longB_eq (xs : List Int) (least : Int) : longB xs least = areLong least xs := by
  unfold longB areLong within
  induction xs with
  | nil => rfl
  | cons x r ih => 
    simp only [List.all_cons, List.any_cons, Bool.not_or, inB]
    congr 1
    rw [Bool.eq_iff_iff]; simp
theorem within_one (lo hi n : Int) : within lo hi [n] = inB n lo hi := by
  unfold within inB
  rw [Bool.eq_iff_iff]; simp
theorem areLong_one (lo n : Int) : areLong lo [n] = inB n lo 3000 := within_one lo 3000 n
theorem within_append (lo hi : Int) (a b : List Int) : within lo hi (a ++ b) = (within lo hi a && within lo hi b) := by
  unfold within; simp [List.any_append, Bool.not_or]
theorem areLong_append (lo : Int) (a b : List Int) : areLong lo (a ++ b) = (areLong lo a && areLong lo b) := within_append lo 3000 a b
theorem refCheck_eq (b : Bl) : refCheck b = checkErr b := by
  have e1 : refLens b = !(lensOk b) := by
    rw [Bool.eq_iff_iff]
    simp [refLens, lensOk]
    omega
  have e2 : refNums b = !(numsOk b) := by
    simp only [refNums, numsOk, longB_eq, within_one, areLong_one, areLong_append]
    cases inB b.tab 0 100 <;> cases areLong 1 b.panels <;> cases inB b.height 1 3000 <;> cases areLong 0 b.top <;> cases areLong 0 b.bottom <;> cases inB b.slot 0 20 <;> rfl
  unfold refCheck checkErr
  rw [e1, e2]
  cases hl : lensOk b with
  | false => rfl
  | true =>
    have h2 : b.top.length = 2 := by simp [lensOk] at hl; exact hl.2.1
    have e3 : refOpen b = (b.isOpen && !within 0 0 b.top) := by
      obtain ⟨t, p, h, top, u, s, o⟩ := b
      match top, h2 with
      | [x, y], _ =>
        rw [Bool.eq_iff_iff]
        simp [refOpen, within]
        omega
    rw [e3]
    cases numsOk b <;> rfl
theorem good_nums {b : Bl} (h : checkErr b = 0) : (b.panels.length = 4 ∧ b.top.length = 2 ∧ b.bottom.length = 2) ∧ (0 ≤ b.tab ∧ b.tab ≤ 100) ∧ (0 ≤ b.slot ∧ b.slot ≤ 20) ∧ (1 ≤ b.height ∧ b.height ≤ 3000) ∧
    ((1 ≤ b.panels.getD 0 0 ∧ b.panels.getD 0 0 ≤ 3000) ∧ (1 ≤ b.panels.getD 1 0 ∧ b.panels.getD 1 0 ≤ 3000) ∧ (1 ≤ b.panels.getD 2 0 ∧ b.panels.getD 2 0 ≤ 3000) ∧ (1 ≤ b.panels.getD 3 0 ∧ b.panels.getD 3 0 ≤ 3000)) ∧
    ((0 ≤ b.top.getD 0 0 ∧ b.top.getD 0 0 ≤ 3000) ∧ (0 ≤ b.top.getD 1 0 ∧ b.top.getD 1 0 ≤ 3000) ∧ (0 ≤ b.bottom.getD 0 0 ∧ b.bottom.getD 0 0 ≤ 3000) ∧ (0 ≤ b.bottom.getD 1 0 ∧ b.bottom.getD 1 0 ≤ 3000)) := by
  obtain ⟨hF, ht, hs, hp, hh, -⟩ := fine_of_check h
  obtain ⟨p0, p1, p2, p3, t0, t1, u0, u1, e1, e2, e3, r0, r1, r2, r3, s0, s1, q0, q1, rh⟩ := hF
  rw [e1] at hp
  have a0 := hp p0 (by simp); have a1 := hp p1 (by simp); have a2 := hp p2 (by simp); have a3 := hp p3 (by simp)
  rw [e1, e2, e3]
  simp only [List.length_cons, List.length_nil, List.getD_cons_zero, List.getD_cons_succ, true_and]
  refine ⟨ht, hs, hh, ⟨a0, a1, a2, a3⟩, s0, s1, q0, q1⟩
theorem large_false {b : Bl} (h : largeB b = false) : b.panels.length ≤ 10 ∧ b.top.length ≤ 10 ∧ b.bottom.length ≤ 10 := by
  simp only [largeB, Bool.or_eq_false_iff, decide_eq_false_iff_not] at h
  omega
end Go.Proofs.YthnediamopehfaaGreat
