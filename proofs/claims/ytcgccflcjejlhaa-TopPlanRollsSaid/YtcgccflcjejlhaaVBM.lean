/- Part of the proof: what the claim leans on. -/
import Derived.Test.YtcgccflcjejlhaaVBL
set_option maxHeartbeats 4000000
set_option maxRecDepth 100000
set_option linter.unusedSimpArgs false
set_option linter.unusedVariables false
namespace Go.Proofs.Ytcgccflcjejlhaa
open Go.RowKit
structure WebR (B bw ua pa ub pb uc pc : Nat) (c00 c01 c02 c10 c11 c12 c20 c21 c22 : Int) (W : World) : Prop where
  hb : W.heap[bw]? = some (.cells #[.slice (some ⟨ua, 0, none⟩) 3 pa, .slice (some ⟨ub, 0, none⟩) 3 pb, .slice (some ⟨uc, 0, none⟩) 3 pc] 25 (0, 0))
  h0 : W.heap[ua]? = some (.cells #[.int .i64 c00, .int .i64 c01, .int .i64 c02] 3 (0, 0))
  h1 : W.heap[ub]? = some (.cells #[.int .i64 c10, .int .i64 c11, .int .i64 c12] 3 (0, 0))
  h2 : W.heap[uc]? = some (.cells #[.int .i64 c20, .int .i64 c21, .int .i64 c22] 3 (0, 0))
  lb : B ≤ bw ∧ B ≤ ua ∧ B ≤ ub ∧ B ≤ uc
  ne : bw ≠ ua ∧ bw ≠ ub ∧ bw ≠ uc ∧ ua ≠ ub ∧ ua ≠ uc ∧ ub ≠ uc
def WebS (ua ub uc : Nat) (b : Nat) : Prop := b = ua ∨ b = ub ∨ b = uc
def IsRw (B : Nat) (x : Int) (v : Value) (W : World) : Prop := ∃ g c, v = .slice (some ⟨g, 0, none⟩) 3 c ∧ W.heap[g]? = some (.cells #[.int .i64 x, .int .i64 x, .int .i64 x] 3 (0, 0)) ∧ B ≤ g
theorem IsRw.below {B : Nat} {x : Int} {v : Value} {W W' : World} (h : IsRw B x v W) (hb : Below W.heap.size W W') : IsRw B x v W' := by
  obtain ⟨g, c, e, h, h1⟩ := h; exact ⟨g, c, e, bwb h hb, h1⟩
theorem newWeb3 (w : World) :
  Calls Try.prog 74 #[.int .i64 3] w (fun e w' => ∃ bw ua pa ub pb uc pc, e = .returned (.slice (some ⟨bw, 0, none⟩) 3 3) ∧ WebR w.heap.size bw ua pa ub pb uc pc 0 1099511627776 1099511627776 1099511627776 0 1099511627776 1099511627776 1099511627776 0 w' ∧ Below w.heap.size w w') := by
 refine calls_fr Try.func74 Try.ntmps74 rfl rfl fun g hg => ?_
 have k0 : g 0 = .int .i64 3 := hg 0
 clear hg
 have fB0 : Below w.heap.size w w := Below.refl _ _
 refine rw_ 1 [(2, 0)] [[]] (rel [is (.slice none 0 0)])
  ⟨fun f s W c d i j k a => opv rfl rfl (by simp [go_sem]) rfl, trivial⟩ ?_
 intro f1 s1 W1 hB1 g1 hg1 z1
 have k1_0 := kt hg1 0 k0
 refine rx 3 [(5, 0), (6, 1), (3, 2)] [[], [0], [0, 1]] (rel [iI 3, row 1 3 #[.slice none 0 0, .slice none 0 0, .slice none 0 0] 25, isS fun s => .slice (some ⟨(s 1), 0, none⟩) (3) (3)])
  ⟨is_k, row_k, isS_k fun s s' e => by rw [e 1 (by simp)], trivial⟩
  ⟨fun f s W c d i j k a => opm (a.v 0 k1_0),
  fun f s W c d i j k a => opr rfl rfl (by simp [go_sem, a.e 5 (d 0 rfl)]; kernel_rfl),
  fun f s W c d i j k a => opv rfl rfl (by simp [go_sem, a.e 6 (d 1 rfl).1, upd]) rfl, trivial⟩ ?_
 intro f2 s2 W2 hB2 g2 hg2 z2
 obtain ⟨r2_1, br2_1⟩ := hB2.is 1
 have lr2_1 := hB2.lr 1 br2_1
 have k2_3 := kt hg2 3 (hB2.is 2)
 refine wp_seq_k fun K3 hK3 => ?_
 refine rw_ 3 [(7, 0), (8, 1), (9, 2)] [[], [0], []] (rel [is (.slice (some ⟨(s2 1), 0, none⟩) (3) (3)), iI 3, iI 0])
  ⟨fun f s W c d i j k a => opm (a.v 3 k2_3),
  fun f s W c d i j k a => opv rfl rfl (by simp [go_sem, a.e 7 (d 0 rfl)]) rfl,
  fun f s W c d i j k a => opz, trivial⟩ ?_
 intro f3 s3 W3 hB3 g3 hg3 z3
 have k3_8 := kt hg3 8 (hB3.is 1)
 have k3_9 := kt hg3 9 (hB3.is 2)
 refine wp_block ?_
 refine wp_loop_rounds 4 ?_
 rw [rounds_succ]
 refine rw_ 1 [(10, 0)] [[]] (rel [iB true])
  ⟨fun f s W c d i j k a => opv rfl rfl (by simp [go_sem, a.e 9 k3_9, a.e 8 k3_8]) rfl, trivial⟩ ?_
 intro f4 s4 W4 hB4 g4 hg4 z4
 have k4_9 := kt hg4 9 k3_9
 have k4_10 := kt hg4 10 (hB4.is 0)
 refine wp_seq_k fun K6 hK6 => ?_
 refine wp_cond_true ((fr_eval rfl).trans k4_10) ?_
 refine wp_skip ?_
 refine hK6 _ _ ?_
 refine wp_seq_k fun K8 hK8 => ?_
 refine wp_block ?_
 refine rw_ 2 [(11, 0), (4, 1)] [[], [0]] (rel [iI 0, iI 0])
  ⟨fun f s W c d i j k a => opm (a.v 9 k4_9),
  fun f s W c d i j k a => opm (a.v 11 (d 0 rfl)), trivial⟩ ?_
 intro f5 s5 W5 hB5 g5 hg5 z5
 have k5_0 := kt hg5 0 (kt hg4 0 (kt hg3 0 (kt hg2 0 k1_0)))
 have k5_3 := kt hg5 3 (kt hg4 3 (kt hg3 3 k2_3))
 have k5_4 := kt hg5 4 (hB5.is 1)
 refine wp_seq_k fun K10 hK10 => ?_
 refine rz 6 [(12, 0), (13, 1), (14, 2), (15, 3), (16, 4), (17, 5)] [[], [], [], [], [2, 3], [0, 1], [0, 1, 2, 3, 4, 5]] (rel [is (.slice (some ⟨(s2 1), 0, none⟩) (3) (3)), iI 0, row 2 1 #[.int .i64 1099511627776] 3, iI 3, ab fun v W => IsRw W5.heap.size 1099511627776 v W, is (.pointer (some ⟨(s2 1), 0, none⟩))])
  ⟨is_k, is_k, row_k, is_k, ab_k fun v W W' hb h => (IsRw.below h hb), is_k, trivial⟩
  ⟨fun f s W c d i j k a => opm (a.v 3 k5_3),
  fun f s W c d i j k a => opm (a.v 4 k5_4),
  fun f s W c d i j k a => opr rfl rfl (by simp [go_sem]),
  fun f s W c d i j k a => opm (a.v 0 k5_0),
  fun f s W c d i j k a => opd rfl rfl (by simp [go_sem, a.e 14 (d 2 rfl).1, a.e 15 (d 3 rfl)]) (repeat3 1099511627776 (s 2) W (d 2 rfl).2) ((fun e W' h => by obtain ⟨g_, c_, e1, h1, h2, h3⟩ := h; exact ⟨_, e1, h3, ⟨g_, c_, rfl, h1, Nat.le_trans c.size h2⟩⟩)),
  fun f s W c d i j k a => opv rfl rfl (by simp [go_sem, a.e 12 (d 0 rfl), a.e 13 (d 1 rfl)]) rfl, trivial⟩ ?_
 intro f6 s6 W6 hB6 g6 hg6 z6
 have fB6 := hB6.f (hB5.f (hB4.f (hB3.f (hB2.f (hB1.f fB0)))))
 have b6_0 := hB6.b (hB5.b (hB4.b (hB3.b br2_1)))
 obtain ⟨r6_2, br6_2⟩ := hB6.is 2
 have lr6_2 := hB6.lr 2 br6_2
 obtain ⟨g1', c2', r6_4, q3', q4'⟩ := hB6.is 4
 have k6_3 := kt hg6 3 k5_3
 have k6_4 := kt hg6 4 k5_4
 have k6_16 := kt hg6 16 r6_4
 have k6_17 := kt hg6 17 (hB6.is 5)
 obtain ⟨W7, hW7⟩ : ∃ W', W' = W6.setRow (s2 1) #[.slice (some ⟨g1', 0, none⟩) 3 c2', .slice none 0 0, .slice none 0 0] := ⟨_, rfl⟩
 refine tsk (o := _) rfl ⟨rfl, rfl⟩ (run_seg hW7 (fr_ev k6_17) (fr_ev k6_16) b6_0 rfl rfl rfl rfl) ?_
 obtain ⟨fB7, nb7, ot7, z7⟩ := sgf hW7 fB6 b6_0 (by omega)
 clear hW7
 have q5' := (ot7 _ _ (by have hl_ := ltb q3'; omega) q3')
 refine wpe ?_
 refine hK10 _ _ ?_
 have lw_q5_ := ltb q5'
 refine ry 6 [(18, 0), (19, 1), (20, 2), (21, 3), (22, 4), (23, 5)] [[], [], [0, 1], [2], [], [3, 4], [0, 1, 2, 3, 4, 5]] (rel [is (.slice (some ⟨(s2 1), 0, none⟩) (3) (3)), iI 0, is (.pointer (some ⟨(s2 1), 0, none⟩)), is (.slice (some ⟨g1', 0, none⟩) 3 c2'), iI 0, is (.pointer (some ⟨g1', 0, none⟩))])
  ⟨fun f s W c d i j k a => opm (a.v 3 k6_3),
  fun f s W c d i j k a => opm (a.v 4 k6_4),
  fun f s W c d i j k a => opv rfl rfl (by simp [go_sem, a.e 18 (d 0 rfl), a.e 19 (d 1 rfl)]) rfl,
  fun f s W c d i j k a => opv rfl rfl (by simp [go_sem, a.e 20 (d 2 rfl), cb nb7 c 0]) rfl,
  fun f s W c d i j k a => opm (a.v 4 k6_4),
  fun f s W c d i j k a => opv rfl rfl (by simp [go_sem, a.e 21 (d 3 rfl), a.e 22 (d 4 rfl)]) rfl, trivial⟩ ?_
 intro f8 s8 W8 hB8 g8 hg8 z8
 have fB8 := hB8.f fB7
 have b8_0 := hB8.b nb7
 have b8_1 := hB8.b q5'
 have k8_9 := kt hg8 9 (kt hg6 9 (kt hg5 9 k4_9))
 have k8_23 := kt hg8 23 (hB8.is 5)
 obtain ⟨W9, hW9⟩ : ∃ W', W' = W8.setRow g1' #[.int .i64 0, .int .i64 1099511627776, .int .i64 1099511627776] := ⟨_, rfl⟩
 refine tsk (o := _) rfl ⟨rfl, rfl⟩ (run_seg hW9 (fr_ev k8_23) (rfl) b8_1 rfl rfl rfl rfl) ?_
 obtain ⟨fB9, nb9, ot9, z9⟩ := sgf hW9 fB8 b8_1 (by omega)
 clear hW9
 have b9_0 := ot9 _ _ (by omega) b8_0
 refine wpe ?_
 refine ibn ?_
 refine hK8 _ _ ?_
 refine ry 2 [(24, 0), (9, 1)] [[], [0]] (rel [iI 1, iI 1])
  ⟨fun f s W c d i j k a => opv rfl rfl (by simp [go_sem, a.e 9 ((j 1 9 rfl rfl).trans k8_9), IntWalk.i64_in (1) (by omega)]) rfl,
  fun f s W c d i j k a => opm (a.v 24 (d 0 rfl)), trivial⟩ ?_
 intro f10 s10 W10 hB10 g10 hg10 z10
 refine wpe ?_
 have k10_8 := kt hg10 8 (kt hg8 8 (kt hg6 8 (kt hg5 8 (kt hg4 8 k3_8))))
 have k10_9 := kt hg10 9 (hB10.is 1)
 refine then_normal ?_
 rw [rounds_succ]
 refine rw_ 1 [(10, 0)] [[]] (rel [iB true])
  ⟨fun f s W c d i j k a => opv rfl rfl (by simp [go_sem, a.e 9 k10_9, a.e 8 k10_8]) rfl, trivial⟩ ?_
 intro f11 s11 W11 hB11 g11 hg11 z11
 have k11_9 := kt hg11 9 k10_9
 have k11_10 := kt hg11 10 (hB11.is 0)
 refine wp_seq_k fun K12 hK12 => ?_
 refine wp_cond_true ((fr_eval rfl).trans k11_10) ?_
 refine wp_skip ?_
 refine hK12 _ _ ?_
 refine wp_seq_k fun K14 hK14 => ?_
 refine wp_block ?_
 refine rw_ 2 [(11, 0), (4, 1)] [[], [0]] (rel [iI 1, iI 1])
  ⟨fun f s W c d i j k a => opm (a.v 9 k11_9),
  fun f s W c d i j k a => opm (a.v 11 (d 0 rfl)), trivial⟩ ?_
 intro f12 s12 W12 hB12 g12 hg12 z12
 have k12_0 := kt hg12 0 (kt hg11 0 (kt hg10 0 (kt hg8 0 (kt hg6 0 k5_0))))
 have k12_3 := kt hg12 3 (kt hg11 3 (kt hg10 3 (kt hg8 3 k6_3)))
 have k12_4 := kt hg12 4 (hB12.is 1)
 refine wp_seq_k fun K16 hK16 => ?_
 refine rz 6 [(12, 0), (13, 1), (14, 2), (15, 3), (16, 4), (17, 5)] [[], [], [], [], [2, 3], [0, 1], [0, 1, 2, 3, 4, 5]] (rel [is (.slice (some ⟨(s2 1), 0, none⟩) (3) (3)), iI 1, row 2 1 #[.int .i64 1099511627776] 3, iI 3, ab fun v W => IsRw W12.heap.size 1099511627776 v W, is (.pointer (some ⟨(s2 1), 1, none⟩))])
  ⟨is_k, is_k, row_k, is_k, ab_k fun v W W' hb h => (IsRw.below h hb), is_k, trivial⟩
  ⟨fun f s W c d i j k a => opm (a.v 3 k12_3),
  fun f s W c d i j k a => opm (a.v 4 k12_4),
  fun f s W c d i j k a => opr rfl rfl (by simp [go_sem]),
  fun f s W c d i j k a => opm (a.v 0 k12_0),
  fun f s W c d i j k a => opd rfl rfl (by simp [go_sem, a.e 14 (d 2 rfl).1, a.e 15 (d 3 rfl)]) (repeat3 1099511627776 (s 2) W (d 2 rfl).2) ((fun e W' h => by obtain ⟨g_, c_, e1, h1, h2, h3⟩ := h; exact ⟨_, e1, h3, ⟨g_, c_, rfl, h1, Nat.le_trans c.size h2⟩⟩)),
  fun f s W c d i j k a => opv rfl rfl (by simp [go_sem, a.e 12 (d 0 rfl), a.e 13 (d 1 rfl)]) rfl, trivial⟩ ?_
 intro f13 s13 W13 hB13 g13 hg13 z13
 have fB13 := hB13.f (hB12.f (hB11.f (hB10.f fB9)))
 have b13_0 := hB13.b (hB12.b (hB11.b (hB10.b b9_0)))
 have b13_1 := hB13.b (hB12.b (hB11.b (hB10.b nb9)))
 obtain ⟨r13_2, br13_2⟩ := hB13.is 2
 have lr13_2 := hB13.lr 2 br13_2
 obtain ⟨g6', c7', r13_4, q8', q9'⟩ := hB13.is 4
 have k13_3 := kt hg13 3 k12_3
 have k13_4 := kt hg13 4 k12_4
 have k13_16 := kt hg13 16 r13_4
 have k13_17 := kt hg13 17 (hB13.is 5)
 obtain ⟨W14, hW14⟩ : ∃ W', W' = W13.setRow (s2 1) #[.slice (some ⟨g1', 0, none⟩) 3 c2', .slice (some ⟨g6', 0, none⟩) 3 c7', .slice none 0 0] := ⟨_, rfl⟩
 refine tsk (o := _) rfl ⟨rfl, rfl⟩ (run_seg hW14 (fr_ev k13_17) (fr_ev k13_16) b13_0 rfl rfl rfl rfl) ?_
 obtain ⟨fB14, nb14, ot14, z14⟩ := sgf hW14 fB13 b13_0 (by omega)
 clear hW14
 have b14_1 := ot14 _ _ (by omega) b13_1
 have q10' := (ot14 _ _ (by have hl_ := ltb q8'; omega) q8')
 refine wpe ?_
 refine hK16 _ _ ?_
 have lw_q10_ := ltb q10'
 refine ry 6 [(18, 0), (19, 1), (20, 2), (21, 3), (22, 4), (23, 5)] [[], [], [0, 1], [2], [], [3, 4], [0, 1, 2, 3, 4, 5]] (rel [is (.slice (some ⟨(s2 1), 0, none⟩) (3) (3)), iI 1, is (.pointer (some ⟨(s2 1), 1, none⟩)), is (.slice (some ⟨g6', 0, none⟩) 3 c7'), iI 1, is (.pointer (some ⟨g6', 1, none⟩))])
  ⟨fun f s W c d i j k a => opm (a.v 3 k13_3),
  fun f s W c d i j k a => opm (a.v 4 k13_4),
  fun f s W c d i j k a => opv rfl rfl (by simp [go_sem, a.e 18 (d 0 rfl), a.e 19 (d 1 rfl)]) rfl,
  fun f s W c d i j k a => opv rfl rfl (by simp [go_sem, a.e 20 (d 2 rfl), cb nb14 c 1]) rfl,
  fun f s W c d i j k a => opm (a.v 4 k13_4),
  fun f s W c d i j k a => opv rfl rfl (by simp [go_sem, a.e 21 (d 3 rfl), a.e 22 (d 4 rfl)]) rfl, trivial⟩ ?_
 intro f15 s15 W15 hB15 g15 hg15 z15
 have fB15 := hB15.f fB14
 have b15_0 := hB15.b nb14
 have b15_1 := hB15.b b14_1
 have b15_2 := hB15.b q10'
 have k15_9 := kt hg15 9 (kt hg13 9 (kt hg12 9 k11_9))
 have k15_23 := kt hg15 23 (hB15.is 5)
 obtain ⟨W16, hW16⟩ : ∃ W', W' = W15.setRow g6' #[.int .i64 1099511627776, .int .i64 0, .int .i64 1099511627776] := ⟨_, rfl⟩
 refine tsk (o := _) rfl ⟨rfl, rfl⟩ (run_seg hW16 (fr_ev k15_23) (rfl) b15_2 rfl rfl rfl rfl) ?_
 obtain ⟨fB16, nb16, ot16, z16⟩ := sgf hW16 fB15 b15_2 (by omega)
 clear hW16
 have b16_0 := ot16 _ _ (by omega) b15_0
 have b16_1 := ot16 _ _ (by omega) b15_1
 refine wpe ?_
 refine ibn ?_
 refine hK14 _ _ ?_
 refine ry 2 [(24, 0), (9, 1)] [[], [0]] (rel [iI 2, iI 2])
  ⟨fun f s W c d i j k a => opv rfl rfl (by simp [go_sem, a.e 9 ((j 1 9 rfl rfl).trans k15_9), IntWalk.i64_in (2) (by omega)]) rfl,
  fun f s W c d i j k a => opm (a.v 24 (d 0 rfl)), trivial⟩ ?_
 intro f17 s17 W17 hB17 g17 hg17 z17
 refine wpe ?_
 have k17_8 := kt hg17 8 (kt hg15 8 (kt hg13 8 (kt hg12 8 (kt hg11 8 k10_8))))
 have k17_9 := kt hg17 9 (hB17.is 1)
 refine then_normal ?_
 rw [rounds_succ]
 refine rw_ 1 [(10, 0)] [[]] (rel [iB true])
  ⟨fun f s W c d i j k a => opv rfl rfl (by simp [go_sem, a.e 9 k17_9, a.e 8 k17_8]) rfl, trivial⟩ ?_
 intro f18 s18 W18 hB18 g18 hg18 z18
 have k18_9 := kt hg18 9 k17_9
 have k18_10 := kt hg18 10 (hB18.is 0)
 refine wp_seq_k fun K18 hK18 => ?_
 refine wp_cond_true ((fr_eval rfl).trans k18_10) ?_
 refine wp_skip ?_
 refine hK18 _ _ ?_
 refine wp_seq_k fun K20 hK20 => ?_
 refine wp_block ?_
 refine rw_ 2 [(11, 0), (4, 1)] [[], [0]] (rel [iI 2, iI 2])
  ⟨fun f s W c d i j k a => opm (a.v 9 k18_9),
  fun f s W c d i j k a => opm (a.v 11 (d 0 rfl)), trivial⟩ ?_
 intro f19 s19 W19 hB19 g19 hg19 z19
 have k19_0 := kt hg19 0 (kt hg18 0 (kt hg17 0 (kt hg15 0 (kt hg13 0 k12_0))))
 have k19_3 := kt hg19 3 (kt hg18 3 (kt hg17 3 (kt hg15 3 k13_3)))
 have k19_4 := kt hg19 4 (hB19.is 1)
 refine wp_seq_k fun K22 hK22 => ?_
 refine rz 6 [(12, 0), (13, 1), (14, 2), (15, 3), (16, 4), (17, 5)] [[], [], [], [], [2, 3], [0, 1], [0, 1, 2, 3, 4, 5]] (rel [is (.slice (some ⟨(s2 1), 0, none⟩) (3) (3)), iI 2, row 2 1 #[.int .i64 1099511627776] 3, iI 3, ab fun v W => IsRw W19.heap.size 1099511627776 v W, is (.pointer (some ⟨(s2 1), 2, none⟩))])
  ⟨is_k, is_k, row_k, is_k, ab_k fun v W W' hb h => (IsRw.below h hb), is_k, trivial⟩
  ⟨fun f s W c d i j k a => opm (a.v 3 k19_3),
  fun f s W c d i j k a => opm (a.v 4 k19_4),
  fun f s W c d i j k a => opr rfl rfl (by simp [go_sem]),
  fun f s W c d i j k a => opm (a.v 0 k19_0),
  fun f s W c d i j k a => opd rfl rfl (by simp [go_sem, a.e 14 (d 2 rfl).1, a.e 15 (d 3 rfl)]) (repeat3 1099511627776 (s 2) W (d 2 rfl).2) ((fun e W' h => by obtain ⟨g_, c_, e1, h1, h2, h3⟩ := h; exact ⟨_, e1, h3, ⟨g_, c_, rfl, h1, Nat.le_trans c.size h2⟩⟩)),
  fun f s W c d i j k a => opv rfl rfl (by simp [go_sem, a.e 12 (d 0 rfl), a.e 13 (d 1 rfl)]) rfl, trivial⟩ ?_
 intro f20 s20 W20 hB20 g20 hg20 z20
 have fB20 := hB20.f (hB19.f (hB18.f (hB17.f fB16)))
 have b20_0 := hB20.b (hB19.b (hB18.b (hB17.b b16_0)))
 have b20_1 := hB20.b (hB19.b (hB18.b (hB17.b b16_1)))
 have b20_2 := hB20.b (hB19.b (hB18.b (hB17.b nb16)))
 obtain ⟨r20_2, br20_2⟩ := hB20.is 2
 have lr20_2 := hB20.lr 2 br20_2
 obtain ⟨g11', c12', r20_4, q13', q14'⟩ := hB20.is 4
 have k20_3 := kt hg20 3 k19_3
 have k20_4 := kt hg20 4 k19_4
 have k20_16 := kt hg20 16 r20_4
 have k20_17 := kt hg20 17 (hB20.is 5)
 obtain ⟨W21, hW21⟩ : ∃ W', W' = W20.setRow (s2 1) #[.slice (some ⟨g1', 0, none⟩) 3 c2', .slice (some ⟨g6', 0, none⟩) 3 c7', .slice (some ⟨g11', 0, none⟩) 3 c12'] := ⟨_, rfl⟩
 refine tsk (o := _) rfl ⟨rfl, rfl⟩ (run_seg hW21 (fr_ev k20_17) (fr_ev k20_16) b20_0 rfl rfl rfl rfl) ?_
 obtain ⟨fB21, nb21, ot21, z21⟩ := sgf hW21 fB20 b20_0 (by omega)
 clear hW21
 have b21_1 := ot21 _ _ (by omega) b20_1
 have b21_2 := ot21 _ _ (by omega) b20_2
 have q15' := (ot21 _ _ (by have hl_ := ltb q13'; omega) q13')
 refine wpe ?_
 refine hK22 _ _ ?_
 have lw_q15_ := ltb q15'
 refine ry 6 [(18, 0), (19, 1), (20, 2), (21, 3), (22, 4), (23, 5)] [[], [], [0, 1], [2], [], [3, 4], [0, 1, 2, 3, 4, 5]] (rel [is (.slice (some ⟨(s2 1), 0, none⟩) (3) (3)), iI 2, is (.pointer (some ⟨(s2 1), 2, none⟩)), is (.slice (some ⟨g11', 0, none⟩) 3 c12'), iI 2, is (.pointer (some ⟨g11', 2, none⟩))])
  ⟨fun f s W c d i j k a => opm (a.v 3 k20_3),
  fun f s W c d i j k a => opm (a.v 4 k20_4),
  fun f s W c d i j k a => opv rfl rfl (by simp [go_sem, a.e 18 (d 0 rfl), a.e 19 (d 1 rfl)]) rfl,
  fun f s W c d i j k a => opv rfl rfl (by simp [go_sem, a.e 20 (d 2 rfl), cb nb21 c 2]) rfl,
  fun f s W c d i j k a => opm (a.v 4 k20_4),
  fun f s W c d i j k a => opv rfl rfl (by simp [go_sem, a.e 21 (d 3 rfl), a.e 22 (d 4 rfl)]) rfl, trivial⟩ ?_
 intro f22 s22 W22 hB22 g22 hg22 z22
 have fB22 := hB22.f fB21
 have b22_0 := hB22.b nb21
 have b22_1 := hB22.b b21_1
 have b22_2 := hB22.b b21_2
 have b22_3 := hB22.b q15'
 have k22_9 := kt hg22 9 (kt hg20 9 (kt hg19 9 k18_9))
 have k22_23 := kt hg22 23 (hB22.is 5)
 obtain ⟨W23, hW23⟩ : ∃ W', W' = W22.setRow g11' #[.int .i64 1099511627776, .int .i64 1099511627776, .int .i64 0] := ⟨_, rfl⟩
 refine tsk (o := _) rfl ⟨rfl, rfl⟩ (run_seg hW23 (fr_ev k22_23) (rfl) b22_3 rfl rfl rfl rfl) ?_
 obtain ⟨fB23, nb23, ot23, z23⟩ := sgf hW23 fB22 b22_3 (by omega)
 clear hW23
 have b23_0 := ot23 _ _ (by omega) b22_0
 have b23_1 := ot23 _ _ (by omega) b22_1
 have b23_2 := ot23 _ _ (by omega) b22_2
 refine wpe ?_
 refine ibn ?_
 refine hK20 _ _ ?_
 refine ry 2 [(24, 0), (9, 1)] [[], [0]] (rel [iI 3, iI 3])
  ⟨fun f s W c d i j k a => opv rfl rfl (by simp [go_sem, a.e 9 ((j 1 9 rfl rfl).trans k22_9), IntWalk.i64_in (3) (by omega)]) rfl,
  fun f s W c d i j k a => opm (a.v 24 (d 0 rfl)), trivial⟩ ?_
 intro f24 s24 W24 hB24 g24 hg24 z24
 refine wpe ?_
 have k24_8 := kt hg24 8 (kt hg22 8 (kt hg20 8 (kt hg19 8 (kt hg18 8 k17_8))))
 have k24_9 := kt hg24 9 (hB24.is 1)
 refine then_normal ?_
 rw [rounds_succ]
 refine rw_ 1 [(10, 0)] [[]] (rel [iB false])
  ⟨fun f s W c d i j k a => opv rfl rfl (by simp [go_sem, a.e 9 k24_9, a.e 8 k24_8]) rfl, trivial⟩ ?_
 intro f25 s25 W25 hB25 g25 hg25 z25
 have k25_3 := kt hg25 3 (kt hg24 3 (kt hg22 3 k20_3))
 have k25_10 := kt hg25 10 (hB25.is 0)
 refine wp_seq_k fun K24 hK24 => ?_
 refine wp_cond_false ((fr_eval rfl).trans k25_10) ?_
 refine wp_exit ?_
 refine then_exit ?_
 refine then_exit ?_
 refine inBlock_at ?_
 refine hK3 _ _ ?_
 refine rw_ 2 [(25, 0), (2, 1)] [[], [0]] (rel [is (.slice (some ⟨(s2 1), 0, none⟩) (3) (3)), is (.slice (some ⟨(s2 1), 0, none⟩) (3) (3))])
  ⟨fun f s W c d i j k a => opm (a.v 3 k25_3),
  fun f s W c d i j k a => opm (a.v 25 (d 0 rfl)), trivial⟩ ?_
 intro f26 s26 W26 hB26 g26 hg26 z26
 have fB26 := hB26.f (hB25.f (hB24.f fB23))
 have b26_0 := hB26.b (hB25.b (hB24.b b23_0))
 have b26_1 := hB26.b (hB25.b (hB24.b b23_1))
 have b26_2 := hB26.b (hB25.b (hB24.b b23_2))
 have b26_3 := hB26.b (hB25.b (hB24.b nb23))
 have k26_2 := kt hg26 2 (hB26.is 1)
 refine wp_ret ?_
 refine leave_one (N := 26) (.inr rfl) Try.results74 rfl k26_2 ?_
 exact ⟨_, _, _, _, _, _, _, rfl, ⟨b26_0, b26_1, b26_2, b26_3, by omega, by omega⟩, fB26⟩
theorem web_knows_01 (lo hi c00 c01 c02 c10 c11 c12 c20 c21 c22 : Int) (bw ua pa ub pb uc pc cw : Nat) (w X : World) (hbX : Below w.heap.size w X) (hR : WebR w.heap.size bw ua pa ub pb uc pc c00 c01 c02 c10 c11 c12 c20 c21 c22 X) (hl_ : 0 ≤ lo ∧ lo ≤ 1000000) :
  Calls Try.prog 75 #[.slice (some ⟨bw, 0, none⟩) 3 cw, .int .i64 0, .int .i64 1, .agg #[.int .i64 lo, .int .i64 hi]] X (fun e w' => e = .returned (.tuple #[]) ∧ WebR w.heap.size bw ua pa ub pb uc pc c00 (min c01 hi) c02 (min c10 (-lo)) c11 c12 c20 c21 c22 w' ∧ KeepP (WebS ua ub uc) X w' ∧ Below w.heap.size w w') := by
 have hk0_ : KeepP (WebS ua ub uc) X X := KeepP.refl _ _
 have hlb_ := hR.lb
 have hne_ := hR.ne
 refine calls_fr Try.func75 Try.ntmps75 rfl rfl fun g hg => ?_
 have k0 : g 0 = .slice (some ⟨bw, 0, none⟩) 3 cw := hg 0
 have k1 : g 1 = .int .i64 0 := hg 1
 have k2 : g 2 = .int .i64 1 := hg 2
 have k3 : g 3 = .agg #[.int .i64 lo, .int .i64 hi] := hg 3
 clear hg
 have fB0 : Below w.heap.size w X := hbX
 have lt_bw := ltb hR.hb
 have lt_ua := ltb hR.h0
 have lt_ub := ltb hR.h1
 have lt_uc := ltb hR.h2
 refine rw_ 1 [(7, 0)] [[]] (rel [bx 0 #[.int .i64 lo, .int .i64 hi] 43])
  ⟨fun f s W c d h i j a => opb rfl rfl (by simp [go_sem, a.e 3 k3]), trivial⟩ ?_
 intro f1 s1 W1 hB1 g1 hg1 z1
 have b1_0 := bwb hR.hb hB1.below
 have b1_1 := bwb hR.h0 hB1.below
 have b1_2 := bwb hR.h1 hB1.below
 have b1_3 := bwb hR.h2 hB1.below
 have q16' := (KeepP.trans hk0_ (KeepP.of_below hB1.below))
 obtain ⟨r1_0, br1_0⟩ := hB1.is 0
 have lr1_0 := hB1.lr 0 br1_0
 have k1_0 := kt hg1 0 k0
 have k1_1 := kt hg1 1 k1
 have k1_2 := kt hg1 2 k2
 have k1_7 := kt hg1 7 r1_0
 refine wp_seq_k fun K2 hK2 => ?_
 refine ry 16 [(8, 0), (9, 1), (10, 2), (11, 3), (12, 4), (13, 5), (14, 6), (15, 7), (16, 8), (17, 9), (18, 10), (19, 11), (20, 12), (21, 13), (22, 14), (23, 15)] [[], [], [0, 1], [2], [], [], [], [5, 6], [7], [], [8, 9], [10], [], [12], [11, 13], [3, 4], [0, 1, 2, 3, 4, 5, 6, 7, 8, 9, 10, 11, 12, 13, 14, 15]] (rel [is (.slice (some ⟨bw, 0, none⟩) 3 cw), iI 0, is (.pointer (some ⟨bw, 0, none⟩)), is (.slice (some ⟨ua, 0, none⟩) 3 pa), iI 1, is (.slice (some ⟨bw, 0, none⟩) 3 cw), iI 0, is (.pointer (some ⟨bw, 0, none⟩)), is (.slice (some ⟨ua, 0, none⟩) 3 pa), iI 1, is (.pointer (some ⟨ua, 1, none⟩)), iI c01, is (.pointer (some ⟨(s1 0), 1, none⟩)), iI hi, iI (min c01 hi), is (.pointer (some ⟨ua, 1, none⟩))])
  ⟨fun f s W c d h i j a => opm (a.v 0 k1_0),
  fun f s W c d h i j a => opm (a.v 1 k1_1),
  fun f s W c d h i j a => opv rfl rfl (by simp [go_sem, a.e 8 (d 0 rfl), a.e 9 (d 1 rfl)]) rfl,
  fun f s W c d h i j a => opv rfl rfl (by simp [go_sem, a.e 10 (d 2 rfl), cb b1_0 c 0]) rfl,
  fun f s W c d h i j a => opm (a.v 2 k1_2),
  fun f s W c d h i j a => opm (a.v 0 k1_0),
  fun f s W c d h i j a => opm (a.v 1 k1_1),
  fun f s W c d h i j a => opv rfl rfl (by simp [go_sem, a.e 13 (d 5 rfl), a.e 14 (d 6 rfl)]) rfl,
  fun f s W c d h i j a => opv rfl rfl (by simp [go_sem, a.e 15 (d 7 rfl), cb b1_0 c 0]) rfl,
  fun f s W c d h i j a => opm (a.v 2 k1_2),
  fun f s W c d h i j a => opv rfl rfl (by simp [go_sem, a.e 16 (d 8 rfl), a.e 17 (d 9 rfl)]) rfl,
  fun f s W c d h i j a => opv rfl rfl (by simp [go_sem, a.e 18 (d 10 rfl), cb b1_1 c 1]) rfl,
  fun f s W c d h i j a => opv rfl rfl (by simp [go_sem, a.e 7 k1_7]) rfl,
  fun f s W c d h i j a => opv rfl rfl (by simp [go_sem, a.e 20 (d 12 rfl), cb br1_0 c 1]) rfl,
  fun f s W c d h i j a => opv rfl rfl (by simp [go_sem, a.e 19 (d 11 rfl), a.e 21 (d 13 rfl)]) rfl,
  fun f s W c d h i j a => opv rfl rfl (by simp [go_sem, a.e 11 (d 3 rfl), a.e 12 (d 4 rfl)]) rfl, trivial⟩ ?_
 intro f2 s2 W2 hB2 g2 hg2 z2
 have fB2 := hB2.f (hB1.f fB0)
 have b2_0 := hB2.b b1_0
 have b2_1 := hB2.b b1_1
 have b2_2 := hB2.b b1_2
 have b2_3 := hB2.b b1_3
 have b2_4 := hB2.b br1_0
 have q17' := (KeepP.trans q16' (KeepP.of_below hB2.below))
 have k2_0 := kt hg2 0 k1_0
 have k2_1 := kt hg2 1 k1_1
 have k2_2 := kt hg2 2 k1_2
 have k2_7 := kt hg2 7 k1_7
 have k2_22 := kt hg2 22 (hB2.is 14)
 have k2_23 := kt hg2 23 (hB2.is 15)
 obtain ⟨W3, hW3⟩ : ∃ W', W' = W2.setRow ua #[.int .i64 c00, .int .i64 (min c01 hi), .int .i64 c02] := ⟨_, rfl⟩
 refine tsk (o := _) rfl ⟨rfl, rfl⟩ (run_seg hW3 (fr_ev k2_23) (fr_ev k2_22) b2_1 rfl rfl rfl rfl) ?_
 obtain ⟨fB3, nb3, ot3, z3⟩ := sgf hW3 fB2 b2_1 (by omega)
 have q18' := (KeepP.trans q17' (keepX_P (keepX_row hW3) (by unfold WebS; first | exact .inl rfl | exact .inr (.inl rfl) | exact .inr (.inr rfl))))
 clear hW3
 have b3_0 := ot3 _ _ (by omega) b2_0
 have b3_2 := ot3 _ _ (by omega) b2_2
 have b3_3 := ot3 _ _ (by omega) b2_3
 have b3_4 := ot3 _ _ (by omega) b2_4
 refine wpe ?_
 refine hK2 _ _ ?_
 refine ry 17 [(24, 0), (25, 1), (26, 2), (27, 3), (28, 4), (29, 5), (30, 6), (31, 7), (32, 8), (33, 9), (34, 10), (35, 11), (36, 12), (37, 13), (38, 14), (39, 15), (40, 16)] [[], [], [0, 1], [2], [], [], [], [5, 6], [7], [], [8, 9], [10], [], [12], [13], [11, 14], [3, 4], [0, 1, 2, 3, 4, 5, 6, 7, 8, 9, 10, 11, 12, 13, 14, 15, 16]] (rel [is (.slice (some ⟨bw, 0, none⟩) 3 cw), iI 1, is (.pointer (some ⟨bw, 1, none⟩)), is (.slice (some ⟨ub, 0, none⟩) 3 pb), iI 0, is (.slice (some ⟨bw, 0, none⟩) 3 cw), iI 1, is (.pointer (some ⟨bw, 1, none⟩)), is (.slice (some ⟨ub, 0, none⟩) 3 pb), iI 0, is (.pointer (some ⟨ub, 0, none⟩)), iI c10, is (.pointer (some ⟨(s1 0), 0, none⟩)), iI lo, iI (-lo), iI (min c10 (-lo)), is (.pointer (some ⟨ub, 0, none⟩))])
  ⟨fun f s W c d h i j a => opm (a.v 0 k2_0),
  fun f s W c d h i j a => opm (a.v 2 k2_2),
  fun f s W c d h i j a => opv rfl rfl (by simp [go_sem, a.e 24 (d 0 rfl), a.e 25 (d 1 rfl)]) rfl,
  fun f s W c d h i j a => opv rfl rfl (by simp [go_sem, a.e 26 (d 2 rfl), cb b3_0 c 1]) rfl,
  fun f s W c d h i j a => opm (a.v 1 k2_1),
  fun f s W c d h i j a => opm (a.v 0 k2_0),
  fun f s W c d h i j a => opm (a.v 2 k2_2),
  fun f s W c d h i j a => opv rfl rfl (by simp [go_sem, a.e 29 (d 5 rfl), a.e 30 (d 6 rfl)]) rfl,
  fun f s W c d h i j a => opv rfl rfl (by simp [go_sem, a.e 31 (d 7 rfl), cb b3_0 c 1]) rfl,
  fun f s W c d h i j a => opm (a.v 1 k2_1),
  fun f s W c d h i j a => opv rfl rfl (by simp [go_sem, a.e 32 (d 8 rfl), a.e 33 (d 9 rfl)]) rfl,
  fun f s W c d h i j a => opv rfl rfl (by simp [go_sem, a.e 34 (d 10 rfl), cb b3_2 c 0]) rfl,
  fun f s W c d h i j a => opv rfl rfl (by simp [go_sem, a.e 7 k2_7]) rfl,
  fun f s W c d h i j a => opv rfl rfl (by simp [go_sem, a.e 36 (d 12 rfl), cb b3_4 c 0]) rfl,
  fun f s W c d h i j a => opv rfl rfl (by simp [go_sem, a.e 37 (d 13 rfl), IntWalk.i64_in (-lo) (by omega)]) rfl,
  fun f s W c d h i j a => opv rfl rfl (by simp [go_sem, a.e 35 (d 11 rfl), a.e 38 (d 14 rfl)]) rfl,
  fun f s W c d h i j a => opv rfl rfl (by simp [go_sem, a.e 27 (d 3 rfl), a.e 28 (d 4 rfl)]) rfl, trivial⟩ ?_
 intro f4 s4 W4 hB4 g4 hg4 z4
 have fB4 := hB4.f fB3
 have b4_0 := hB4.b b3_0
 have b4_1 := hB4.b nb3
 have b4_2 := hB4.b b3_2
 have b4_3 := hB4.b b3_3
 have q19' := (KeepP.trans q18' (KeepP.of_below hB4.below))
 have k4_39 := kt hg4 39 (hB4.is 15)
 have k4_40 := kt hg4 40 (hB4.is 16)
 obtain ⟨W5, hW5⟩ : ∃ W', W' = W4.setRow ub #[.int .i64 (min c10 (-lo)), .int .i64 c11, .int .i64 c12] := ⟨_, rfl⟩
 refine tsk (o := _) rfl ⟨rfl, rfl⟩ (run_seg hW5 (fr_ev k4_40) (fr_ev k4_39) b4_2 rfl rfl rfl rfl) ?_
 obtain ⟨fB5, nb5, ot5, z5⟩ := sgf hW5 fB4 b4_2 (by omega)
 have q20' := (KeepP.trans q19' (keepX_P (keepX_row hW5) (by unfold WebS; first | exact .inl rfl | exact .inr (.inl rfl) | exact .inr (.inr rfl))))
 clear hW5
 have b5_0 := ot5 _ _ (by omega) b4_0
 have b5_1 := ot5 _ _ (by omega) b4_1
 have b5_3 := ot5 _ _ (by omega) b4_3
 refine wpe ?_
 refine leave_gen (v := .tuple #[]) (.inl rfl) (by simp [results, Try.results75, go_sem]) ?_
 exact ⟨rfl, ⟨b5_0, b5_1, nb5, b5_3, hlb_, hne_⟩, q20', fB5⟩
theorem web_knows_12 (lo hi c00 c01 c02 c10 c11 c12 c20 c21 c22 : Int) (bw ua pa ub pb uc pc cw : Nat) (w X : World) (hbX : Below w.heap.size w X) (hR : WebR w.heap.size bw ua pa ub pb uc pc c00 c01 c02 c10 c11 c12 c20 c21 c22 X) (hl_ : 0 ≤ lo ∧ lo ≤ 1000000) :
  Calls Try.prog 75 #[.slice (some ⟨bw, 0, none⟩) 3 cw, .int .i64 1, .int .i64 2, .agg #[.int .i64 lo, .int .i64 hi]] X (fun e w' => e = .returned (.tuple #[]) ∧ WebR w.heap.size bw ua pa ub pb uc pc c00 c01 c02 c10 c11 (min c12 hi) c20 (min c21 (-lo)) c22 w' ∧ KeepP (WebS ua ub uc) X w' ∧ Below w.heap.size w w') := by
 have hk0_ : KeepP (WebS ua ub uc) X X := KeepP.refl _ _
 have hlb_ := hR.lb
 have hne_ := hR.ne
 refine calls_fr Try.func75 Try.ntmps75 rfl rfl fun g hg => ?_
 have k0 : g 0 = .slice (some ⟨bw, 0, none⟩) 3 cw := hg 0
 have k1 : g 1 = .int .i64 1 := hg 1
 have k2 : g 2 = .int .i64 2 := hg 2
 have k3 : g 3 = .agg #[.int .i64 lo, .int .i64 hi] := hg 3
 clear hg
 have fB0 : Below w.heap.size w X := hbX
 have lt_bw := ltb hR.hb
 have lt_ua := ltb hR.h0
 have lt_ub := ltb hR.h1
 have lt_uc := ltb hR.h2
 refine rw_ 1 [(7, 0)] [[]] (rel [bx 0 #[.int .i64 lo, .int .i64 hi] 43])
  ⟨fun f s W c d h i j a => opb rfl rfl (by simp [go_sem, a.e 3 k3]), trivial⟩ ?_
 intro f1 s1 W1 hB1 g1 hg1 z1
 have b1_0 := bwb hR.hb hB1.below
 have b1_1 := bwb hR.h0 hB1.below
 have b1_2 := bwb hR.h1 hB1.below
 have b1_3 := bwb hR.h2 hB1.below
 have q21' := (KeepP.trans hk0_ (KeepP.of_below hB1.below))
 obtain ⟨r1_0, br1_0⟩ := hB1.is 0
 have lr1_0 := hB1.lr 0 br1_0
 have k1_0 := kt hg1 0 k0
 have k1_1 := kt hg1 1 k1
 have k1_2 := kt hg1 2 k2
 have k1_7 := kt hg1 7 r1_0
 refine wp_seq_k fun K2 hK2 => ?_
 refine ry 16 [(8, 0), (9, 1), (10, 2), (11, 3), (12, 4), (13, 5), (14, 6), (15, 7), (16, 8), (17, 9), (18, 10), (19, 11), (20, 12), (21, 13), (22, 14), (23, 15)] [[], [], [0, 1], [2], [], [], [], [5, 6], [7], [], [8, 9], [10], [], [12], [11, 13], [3, 4], [0, 1, 2, 3, 4, 5, 6, 7, 8, 9, 10, 11, 12, 13, 14, 15]] (rel [is (.slice (some ⟨bw, 0, none⟩) 3 cw), iI 1, is (.pointer (some ⟨bw, 1, none⟩)), is (.slice (some ⟨ub, 0, none⟩) 3 pb), iI 2, is (.slice (some ⟨bw, 0, none⟩) 3 cw), iI 1, is (.pointer (some ⟨bw, 1, none⟩)), is (.slice (some ⟨ub, 0, none⟩) 3 pb), iI 2, is (.pointer (some ⟨ub, 2, none⟩)), iI c12, is (.pointer (some ⟨(s1 0), 1, none⟩)), iI hi, iI (min c12 hi), is (.pointer (some ⟨ub, 2, none⟩))])
  ⟨fun f s W c d h i j a => opm (a.v 0 k1_0),
  fun f s W c d h i j a => opm (a.v 1 k1_1),
  fun f s W c d h i j a => opv rfl rfl (by simp [go_sem, a.e 8 (d 0 rfl), a.e 9 (d 1 rfl)]) rfl,
  fun f s W c d h i j a => opv rfl rfl (by simp [go_sem, a.e 10 (d 2 rfl), cb b1_0 c 1]) rfl,
  fun f s W c d h i j a => opm (a.v 2 k1_2),
  fun f s W c d h i j a => opm (a.v 0 k1_0),
  fun f s W c d h i j a => opm (a.v 1 k1_1),
  fun f s W c d h i j a => opv rfl rfl (by simp [go_sem, a.e 13 (d 5 rfl), a.e 14 (d 6 rfl)]) rfl,
  fun f s W c d h i j a => opv rfl rfl (by simp [go_sem, a.e 15 (d 7 rfl), cb b1_0 c 1]) rfl,
  fun f s W c d h i j a => opm (a.v 2 k1_2),
  fun f s W c d h i j a => opv rfl rfl (by simp [go_sem, a.e 16 (d 8 rfl), a.e 17 (d 9 rfl)]) rfl,
  fun f s W c d h i j a => opv rfl rfl (by simp [go_sem, a.e 18 (d 10 rfl), cb b1_2 c 2]) rfl,
  fun f s W c d h i j a => opv rfl rfl (by simp [go_sem, a.e 7 k1_7]) rfl,
  fun f s W c d h i j a => opv rfl rfl (by simp [go_sem, a.e 20 (d 12 rfl), cb br1_0 c 1]) rfl,
  fun f s W c d h i j a => opv rfl rfl (by simp [go_sem, a.e 19 (d 11 rfl), a.e 21 (d 13 rfl)]) rfl,
  fun f s W c d h i j a => opv rfl rfl (by simp [go_sem, a.e 11 (d 3 rfl), a.e 12 (d 4 rfl)]) rfl, trivial⟩ ?_
 intro f2 s2 W2 hB2 g2 hg2 z2
 have fB2 := hB2.f (hB1.f fB0)
 have b2_0 := hB2.b b1_0
 have b2_1 := hB2.b b1_1
 have b2_2 := hB2.b b1_2
 have b2_3 := hB2.b b1_3
 have b2_4 := hB2.b br1_0
 have q22' := (KeepP.trans q21' (KeepP.of_below hB2.below))
 have k2_0 := kt hg2 0 k1_0
 have k2_1 := kt hg2 1 k1_1
 have k2_2 := kt hg2 2 k1_2
 have k2_7 := kt hg2 7 k1_7
 have k2_22 := kt hg2 22 (hB2.is 14)
 have k2_23 := kt hg2 23 (hB2.is 15)
 obtain ⟨W3, hW3⟩ : ∃ W', W' = W2.setRow ub #[.int .i64 c10, .int .i64 c11, .int .i64 (min c12 hi)] := ⟨_, rfl⟩
 refine tsk (o := _) rfl ⟨rfl, rfl⟩ (run_seg hW3 (fr_ev k2_23) (fr_ev k2_22) b2_2 rfl rfl rfl rfl) ?_
 obtain ⟨fB3, nb3, ot3, z3⟩ := sgf hW3 fB2 b2_2 (by omega)
 have q23' := (KeepP.trans q22' (keepX_P (keepX_row hW3) (by unfold WebS; first | exact .inl rfl | exact .inr (.inl rfl) | exact .inr (.inr rfl))))
 clear hW3
 have b3_0 := ot3 _ _ (by omega) b2_0
 have b3_1 := ot3 _ _ (by omega) b2_1
 have b3_3 := ot3 _ _ (by omega) b2_3
 have b3_4 := ot3 _ _ (by omega) b2_4
 refine wpe ?_
 refine hK2 _ _ ?_
 refine ry 17 [(24, 0), (25, 1), (26, 2), (27, 3), (28, 4), (29, 5), (30, 6), (31, 7), (32, 8), (33, 9), (34, 10), (35, 11), (36, 12), (37, 13), (38, 14), (39, 15), (40, 16)] [[], [], [0, 1], [2], [], [], [], [5, 6], [7], [], [8, 9], [10], [], [12], [13], [11, 14], [3, 4], [0, 1, 2, 3, 4, 5, 6, 7, 8, 9, 10, 11, 12, 13, 14, 15, 16]] (rel [is (.slice (some ⟨bw, 0, none⟩) 3 cw), iI 2, is (.pointer (some ⟨bw, 2, none⟩)), is (.slice (some ⟨uc, 0, none⟩) 3 pc), iI 1, is (.slice (some ⟨bw, 0, none⟩) 3 cw), iI 2, is (.pointer (some ⟨bw, 2, none⟩)), is (.slice (some ⟨uc, 0, none⟩) 3 pc), iI 1, is (.pointer (some ⟨uc, 1, none⟩)), iI c21, is (.pointer (some ⟨(s1 0), 0, none⟩)), iI lo, iI (-lo), iI (min c21 (-lo)), is (.pointer (some ⟨uc, 1, none⟩))])
  ⟨fun f s W c d h i j a => opm (a.v 0 k2_0),
  fun f s W c d h i j a => opm (a.v 2 k2_2),
  fun f s W c d h i j a => opv rfl rfl (by simp [go_sem, a.e 24 (d 0 rfl), a.e 25 (d 1 rfl)]) rfl,
  fun f s W c d h i j a => opv rfl rfl (by simp [go_sem, a.e 26 (d 2 rfl), cb b3_0 c 2]) rfl,
  fun f s W c d h i j a => opm (a.v 1 k2_1),
  fun f s W c d h i j a => opm (a.v 0 k2_0),
  fun f s W c d h i j a => opm (a.v 2 k2_2),
  fun f s W c d h i j a => opv rfl rfl (by simp [go_sem, a.e 29 (d 5 rfl), a.e 30 (d 6 rfl)]) rfl,
  fun f s W c d h i j a => opv rfl rfl (by simp [go_sem, a.e 31 (d 7 rfl), cb b3_0 c 2]) rfl,
  fun f s W c d h i j a => opm (a.v 1 k2_1),
  fun f s W c d h i j a => opv rfl rfl (by simp [go_sem, a.e 32 (d 8 rfl), a.e 33 (d 9 rfl)]) rfl,
  fun f s W c d h i j a => opv rfl rfl (by simp [go_sem, a.e 34 (d 10 rfl), cb b3_3 c 1]) rfl,
  fun f s W c d h i j a => opv rfl rfl (by simp [go_sem, a.e 7 k2_7]) rfl,
  fun f s W c d h i j a => opv rfl rfl (by simp [go_sem, a.e 36 (d 12 rfl), cb b3_4 c 0]) rfl,
  fun f s W c d h i j a => opv rfl rfl (by simp [go_sem, a.e 37 (d 13 rfl), IntWalk.i64_in (-lo) (by omega)]) rfl,
  fun f s W c d h i j a => opv rfl rfl (by simp [go_sem, a.e 35 (d 11 rfl), a.e 38 (d 14 rfl)]) rfl,
  fun f s W c d h i j a => opv rfl rfl (by simp [go_sem, a.e 27 (d 3 rfl), a.e 28 (d 4 rfl)]) rfl, trivial⟩ ?_
 intro f4 s4 W4 hB4 g4 hg4 z4
 have fB4 := hB4.f fB3
 have b4_0 := hB4.b b3_0
 have b4_1 := hB4.b b3_1
 have b4_2 := hB4.b nb3
 have b4_3 := hB4.b b3_3
 have q24' := (KeepP.trans q23' (KeepP.of_below hB4.below))
 have k4_39 := kt hg4 39 (hB4.is 15)
 have k4_40 := kt hg4 40 (hB4.is 16)
 obtain ⟨W5, hW5⟩ : ∃ W', W' = W4.setRow uc #[.int .i64 c20, .int .i64 (min c21 (-lo)), .int .i64 c22] := ⟨_, rfl⟩
 refine tsk (o := _) rfl ⟨rfl, rfl⟩ (run_seg hW5 (fr_ev k4_40) (fr_ev k4_39) b4_3 rfl rfl rfl rfl) ?_
 obtain ⟨fB5, nb5, ot5, z5⟩ := sgf hW5 fB4 b4_3 (by omega)
 have q25' := (KeepP.trans q24' (keepX_P (keepX_row hW5) (by unfold WebS; first | exact .inl rfl | exact .inr (.inl rfl) | exact .inr (.inr rfl))))
 clear hW5
 have b5_0 := ot5 _ _ (by omega) b4_0
 have b5_1 := ot5 _ _ (by omega) b4_1
 have b5_2 := ot5 _ _ (by omega) b4_2
 refine wpe ?_
 refine leave_gen (v := .tuple #[]) (.inl rfl) (by simp [results, Try.results75, go_sem]) ?_
 exact ⟨rfl, ⟨b5_0, b5_1, b5_2, nb5, hlb_, hne_⟩, q25', fB5⟩
end Go.Proofs.Ytcgccflcjejlhaa
