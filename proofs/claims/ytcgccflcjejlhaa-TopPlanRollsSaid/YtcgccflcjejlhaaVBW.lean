/- Part of the proof: what the claim leans on. -/
import Derived.Test.YtcgccflcjejlhaaVBU
import Derived.Test.YtcgccflcjejlhaaVBV
import Derived.Test.YtcgccflcjejlhaaVBJ
set_option maxHeartbeats 16000000
set_option maxRecDepth 100000
set_option linter.unusedSimpArgs false
set_option linter.unusedVariables false
namespace Go.Proofs.Ytcgccflcjejlhaa
open Go.RowKit
theorem rolls_all (tb : Int) (ap ta : Option Addr) (np cp nb cb : Nat) (pv : Nat → Nat → Int) (vv bs : Nat → Int) (w : World) (hR : RowsB w ap np 2 pv) (ht : 0 ≤ tb ∧ tb ≤ 255) (hp : ∀ i j, 0 ≤ pv i j ∧ pv i j ≤ 255) (gv_ : ∀ k, 0 ≤ vv k ∧ vv k ≤ 255) (hT : ByV w ta nb bs) :
  Calls Try.prog 4 #[.agg #[.int .u8 tb, .slice ap np cp], .agg #[.int .u8 ((vv 0)), .int .u8 ((vv 1)), .int .u8 ((vv 2)), .int .u8 ((vv 3)), .int .u8 ((vv 4)), .int .u8 ((vv 5)), .int .u8 ((vv 6)), .int .u8 ((vv 7))], .slice ta nb cb] w (fun e w' => e = .returned (.bool true) ∧ Below w.heap.size w w') := by
 have v0_ := gv_ 0
 have v1_ := gv_ 1
 have v2_ := gv_ 2
 have v3_ := gv_ 3
 have v4_ := gv_ 4
 have v5_ := gv_ 5
 have v6_ := gv_ 6
 have v7_ := gv_ 7
 refine calls_fr Try.func4 Try.ntmps4 rfl rfl fun g hg => ?_
 have k0 : g 0 = .agg #[.int .u8 tb, .slice ap np cp] := hg 0
 have k1 : g 1 = .agg #[.int .u8 ((vv 0)), .int .u8 ((vv 1)), .int .u8 ((vv 2)), .int .u8 ((vv 3)), .int .u8 ((vv 4)), .int .u8 ((vv 5)), .int .u8 ((vv 6)), .int .u8 ((vv 7))] := hg 1
 have k2 : g 2 = .slice ta nb cb := hg 2
 clear hg
 have fB0 : Below w.heap.size w w := Below.refl _ _
 refine rw_ 3 [(3, 0), (4, 1), (6, 2)] [[], [], []] (rel [bx 0 #[.int .u8 tb, .slice ap np cp] 57, bx 1 #[.int .u8 ((vv 0)), .int .u8 ((vv 1)), .int .u8 ((vv 2)), .int .u8 ((vv 3)), .int .u8 ((vv 4)), .int .u8 ((vv 5)), .int .u8 ((vv 6)), .int .u8 ((vv 7))] 58, iB false])
  ⟨fun f s W hW l m p r a => opb rfl rfl (by simp [go_sem, a.e 0 k0]),
  fun f s W hW l m p r a => opb rfl rfl (by simp [go_sem, a.e 1 k1]),
  fun f s W hW l m p r a => opz, trivial⟩ ?_
 intro f1 s1 W1 hB1 g1 hg1 z1
 have fB1 := hB1.f fB0
 obtain ⟨r1_0, br1_0⟩ := hB1.is 0
 have lr1_0 := hB1.lr 0 br1_0
 obtain ⟨r1_1, br1_1⟩ := hB1.is 1
 have lr1_1 := hB1.lr 1 br1_1
 have ne1_0_1 := hB1.nb 0 1
 have k1_4 := kt hg1 4 r1_1
 refine wp_seq_k fun K2 hK2 => ?_
 refine region_doS (W1.heap.size) (fun t => [61].contains t) [(19, 18)] 20 [(40, 0), (41, 1), (42, 2), (43, 3), (44, 4), (45, 5), (46, 6), (47, 7), (48, 8), (49, 9), (50, 10), (51, 11), (52, 12), (53, 13), (54, 14), (55, 15), (56, 16), (57, 17), (7, 18), (8, 20)] [[], [0], [0, 1], [0, 1, 2], [0, 1, 2, 3], [], [5], [5, 6], [5, 6, 7], [5, 6, 7, 8], [5, 6, 7, 8, 9], [], [11], [11, 12], [11, 12, 13], [11, 12, 13, 14], [0, 1, 2, 3, 4, 5, 6, 7, 8, 9, 10, 11, 12, 13, 14, 15], [], [], [0, 1, 2, 3, 4, 5, 6, 7, 8, 9, 10, 11, 12, 13, 14, 15, 16, 18], [0, 1, 2, 3, 4, 5, 6, 7, 8, 9, 10, 11, 12, 13, 14, 15, 16, 17, 18, 19]] (rel [is (.pointer (some ⟨(s1 1), 0, none⟩)),
   is (.int .u8 ((vv 0))),
   is (.int .i64 ((vv 0))),
   is (.int .i64 (4 * (vv 0))),
   is (.int .i64 (500 + (4 * (vv 0)))),
   is (.pointer (some ⟨(s1 1), 1, none⟩)),
   is (.int .u8 ((vv 1))),
   is (.int .i64 ((vv 1))),
   is (.int .i64 (3 * (vv 1))),
   is (.int .i64 (40 + (3 * (vv 1)))),
   is (.agg #[.int .i64 0, .int .i64 (40 + (3 * (vv 1)))]),
   is (.pointer (some ⟨(s1 1), 2, none⟩)),
   is (.int .u8 ((vv 2))),
   is (.int .i64 ((vv 2))),
   is (.int .i64 ((vv 2) % 3)),
   is (.int .i64 (2 + ((vv 2) % 3))),
   is (.agg #[.int .i64 (500 + (4 * (vv 0))), .int .i64 0, .int .i64 (40 + (3 * (vv 1))), .int .i64 (2 + ((vv 2) % 3))]),
   row 17 0 #[] 65,
   boxK (W1.heap.size) 61 4 18,
   stoS 61 18 #[.int .i64 (500 + (4 * (vv 0))), .int .i64 0, .int .i64 (40 + (3 * (vv 1))), .int .i64 (2 + ((vv 2) % 3))]]) (by kernel_rfl) (by kernel_rfl) (by kernel_rfl) (by kernel_rfl) (by decide) ⟨fun _ _ _ h => boxK_lt h, trivial⟩
  ⟨ks_l (is_kl), ks_l (is_kl), ks_l (is_kl), ks_l (is_kl), ks_l (is_kl), ks_l (is_kl), ks_l (is_kl), ks_l (is_kl), ks_l (is_kl), ks_l (is_kl), ks_l (is_kl), ks_l (is_kl), ks_l (is_kl), ks_l (is_kl), ks_l (is_kl), ks_l (is_kl), ks_l (is_kl), ks_l (rowK_k rfl), ks_l (boxK_k rfl), ks_s rfl (by decide), trivial⟩
  ⟨fun f s W hT l m p r a => by have hW := LeK.below hT (Nat.le_refl _); exact OpDo.s (opv rfl rfl (by simp [go_sem, a.e 4 k1_4]) rfl),
  fun f s W hT l m p r a => by have hW := LeK.below hT (Nat.le_refl _); exact OpDo.s (opv rfl rfl (by simp [go_sem, a.e 40 (l 0 rfl), cl (bwb br1_1 hW) 0]) rfl),
  fun f s W hT l m p r a => by have hW := LeK.below hT (Nat.le_refl _); exact OpDo.s (by have cv_ := IntWalk.i64_in ((vv 0)) (by omega); exact opv rfl rfl (by simp [go_sem, a.e 41 (l 1 rfl), cv_]) rfl),
  fun f s W hT l m p r a => by have hW := LeK.below hT (Nat.le_refl _); exact OpDo.s (opv rfl rfl (by simp [go_sem, a.e 42 (l 2 rfl), IntWalk.i64_in (4 * (vv 0)) (by omega)]) rfl),
  fun f s W hT l m p r a => by have hW := LeK.below hT (Nat.le_refl _); exact OpDo.s (opv rfl rfl (by simp [go_sem, a.e 43 (l 3 rfl), IntWalk.i64_in (500 + (4 * (vv 0))) (by omega)]) rfl),
  fun f s W hT l m p r a => by have hW := LeK.below hT (Nat.le_refl _); exact OpDo.s (opv rfl rfl (by simp [go_sem, a.e 4 k1_4]) rfl),
  fun f s W hT l m p r a => by have hW := LeK.below hT (Nat.le_refl _); exact OpDo.s (opv rfl rfl (by simp [go_sem, a.e 45 (l 5 rfl), cl (bwb br1_1 hW) 1]) rfl),
  fun f s W hT l m p r a => by have hW := LeK.below hT (Nat.le_refl _); exact OpDo.s (by have cv_ := IntWalk.i64_in ((vv 1)) (by omega); exact opv rfl rfl (by simp [go_sem, a.e 46 (l 6 rfl), cv_]) rfl),
  fun f s W hT l m p r a => by have hW := LeK.below hT (Nat.le_refl _); exact OpDo.s (opv rfl rfl (by simp [go_sem, a.e 47 (l 7 rfl), IntWalk.i64_in (3 * (vv 1)) (by omega)]) rfl),
  fun f s W hT l m p r a => by have hW := LeK.below hT (Nat.le_refl _); exact OpDo.s (opv rfl rfl (by simp [go_sem, a.e 48 (l 8 rfl), IntWalk.i64_in (40 + (3 * (vv 1))) (by omega)]) rfl),
  fun f s W hT l m p r a => by have hW := LeK.below hT (Nat.le_refl _); exact OpDo.s (opc rfl rfl (by simp [go_sem, a.e 49 (l 9 rfl)]) (arm_spanR (0) (40 + (3 * (vv 1))) W)),
  fun f s W hT l m p r a => by have hW := LeK.below hT (Nat.le_refl _); exact OpDo.s (opv rfl rfl (by simp [go_sem, a.e 4 k1_4]) rfl),
  fun f s W hT l m p r a => by have hW := LeK.below hT (Nat.le_refl _); exact OpDo.s (opv rfl rfl (by simp [go_sem, a.e 51 (l 11 rfl), cl (bwb br1_1 hW) 2]) rfl),
  fun f s W hT l m p r a => by have hW := LeK.below hT (Nat.le_refl _); exact OpDo.s (by have cv_ := IntWalk.i64_in ((vv 2)) (by omega); exact opv rfl rfl (by simp [go_sem, a.e 52 (l 12 rfl), cv_]) rfl),
  fun f s W hT l m p r a => by have hW := LeK.below hT (Nat.le_refl _); exact OpDo.s (by have qu_ : ((vv 2)).tmod 3 = (vv 2) % 3 := Int.tmod_eq_emod_of_nonneg (by omega); have qw_ := IntWalk.i64_in ((vv 2) % 3) (by omega); exact opv rfl rfl (by simp [go_sem, a.e 53 (l 13 rfl), qu_, qw_]) rfl),
  fun f s W hT l m p r a => by have hW := LeK.below hT (Nat.le_refl _); exact OpDo.s (opv rfl rfl (by simp [go_sem, a.e 54 (l 14 rfl), IntWalk.i64_in (2 + ((vv 2) % 3)) (by omega)]) rfl),
  fun f s W hT l m p r a => by have hW := LeK.below hT (Nat.le_refl _); exact OpDo.s (opv rfl rfl (by simp [go_sem, a.e 44 (l 4 rfl), a.e 50 (l 10 rfl), a.e 55 (l 15 rfl)]) rfl),
  fun f s W hT l m p r a => by have hW := LeK.below hT (Nat.le_refl _); exact OpDo.s (opr rfl rfl (by simp [go_sem])),
  fun f s W hT l m p r a => opS (cs := #[.int .i64 0, .int .i64 0, .int .i64 0, .int .i64 0]) (hT.size) rfl rfl (by simp [go_sem]) rfl,
  fun f s W hT l m p r a => stoS_do (#[.int .i64 (500 + (4 * (vv 0))), .int .i64 0, .int .i64 (40 + (3 * (vv 1))), .int .i64 (2 + ((vv 2) % 3))]) rfl rfl rfl (by decide) (l 18 rfl) (a.v 7 (l 18 rfl).1) (a.v 56 (l 16 rfl)) rfl rfl (by rfl) (by rfl), trivial⟩ ?_
 intro f2 s2 W2 hB2
 have hb2 := LeK.below hB2.le (Nat.le_refl _)
 have fB2 := bwt fB1 hb2
 have z2 : W1.heap.size ≤ W2.heap.size := hb2.size
 have b2_0 := bwb br1_0 hb2
 have b2_1 := bwb br1_1 hb2
 obtain ⟨r2_18, lb2_18, -⟩ := hB2.is 18
 have bs2_18 : W2.heap[s2 18]? = some (.cells #[.int .i64 (500 + (4 * (vv 0))), .int .i64 0, .int .i64 (40 + (3 * (vv 1))), .int .i64 (2 + ((vv 2) % 3))] 61 (0, 0)) := hB2.is 19
 have lr2_18 : W1.heap.size ≤ s2 18 ∧ s2 18 < W2.heap.size := ⟨lb2_18, ltb bs2_18⟩
 obtain ⟨r2_17, br2_17⟩ := hB2.is 17
 have lr2_17 : W1.heap.size ≤ s2 17 ∧ s2 17 < W2.heap.size := ⟨hB2.from' 17 (by decide), ltb br2_17⟩
 have nk2_18_17 : s2 18 ≠ s2 17 := hB2.two 18 17 (by decide) (by decide) (by decide) (Nat.le_refl _) (Nat.le_refl _) (fun _ h => boxK_lt h) (fun _ h => ltb h.2)
 generalize hg2 : ov [(40, 0), (41, 1), (42, 2), (43, 3), (44, 4), (45, 5), (46, 6), (47, 7), (48, 8), (49, 9), (50, 10), (51, 11), (52, 12), (53, 13), (54, 14), (55, 15), (56, 16), (57, 17), (7, 18), (8, 20)] f2 g1 = g2
 have k2_57 := kt hg2 57 r2_17
 refine tail_value (o := _) rfl rfl rfl (v := .slice (some ⟨(s2 17), 0, none⟩) (0) (0)) (by simp [go_sem, frv 426 k2_57]) ?_
 generalize hg3 : upd g2 8 (.slice (some ⟨(s2 17), 0, none⟩) (0) (0)) = g3
 have k3_8 := kt hg3 8 (upd_same _ _ _)
 refine wpe ?_
 refine hK2 _ _ ?_
 obtain ⟨b0, hb0⟩ : ∃ b, (s2 17) = b := ⟨_, rfl⟩
 have on0 : OwnN 65 3 w.heap.size 0 [] (some ⟨b0, 0, none⟩) 0 W2 := .inr ⟨b0, rfl, ownR_empty (hb0 ▸ br2_17) (by rw [← hb0]; omega)⟩
 have k8_ : g3 8 = .slice (some ⟨b0, 0, none⟩) 0 0 := hb0 ▸ k3_8
 refine wp_seq_k fun K3 hK3 => ?_
 refine rw_ 1 [(9, 0)] [[]] (rel [iI 0])
  ⟨fun f s W hW l m p r a => opz, trivial⟩ ?_
 intro f4 s4 W4 hB4 g4 hg4 z4
 have q31' := (on0.below hB4.below)
 have k4_9 := kt hg4 9 (hB4.is 0)
 refine wp_block ?_
 refine wp_loop_rounds 4 ?_
 rw [rounds_succ]
 refine wp_seq_k fun K5 hK5 => ?_
 refine rw_ 2 [(58, 0), (59, 1)] [[], [0]] (rel [iI 0, iB true])
  ⟨fun f s W hW l m p r a => opm (a.v 9 k4_9),
  fun f s W hW l m p r a => opv rfl rfl (by simp [go_sem, a.e 58 (l 0 rfl)]) rfl, trivial⟩ ?_
 intro f5 s5 W5 hB5 g5 hg5 z5
 have b5_1 := hB5.b (hB4.b b2_1)
 have q32' := (q31'.below hB5.below)
 have k5_4 := kt hg5 4 (kt hg4 4 (ku hg3 4 (kt hg2 4 k1_4)))
 have k5_8 := kt hg5 8 (kt hg4 8 k8_)
 have k5_9 := kt hg5 9 k4_9
 have k5_59 := kt hg5 59 (hB5.is 1)
 refine wp_cond_true ((fr_eval rfl).trans k5_59) ?_
 refine wp_skip ?_
 refine hK5 _ _ ?_
 refine wp_seq_k fun K8 hK8 => ?_
 refine wp_block ?_
 refine ry 33 [(62, 0), (63, 1), (64, 2), (65, 3), (66, 4), (67, 5), (68, 6), (69, 7), (70, 8), (71, 9), (72, 10), (73, 11), (74, 12), (75, 13), (76, 14), (77, 15), (78, 16), (79, 17), (80, 18), (81, 19), (82, 20), (83, 21), (84, 22), (85, 23), (86, 24), (87, 25), (88, 26), (89, 27), (90, 28), (91, 29), (92, 30), (93, 31), (94, 32), (95, 33), (8, 34)] [[], [], [1], [1, 2], [1, 2, 3], [1, 2, 3, 4], [1, 2, 3, 4, 5], [1, 2, 3, 4, 5, 6], [], [8], [8, 9], [], [11], [11, 12], [8, 9, 10, 11, 12, 13], [8, 9, 10, 11, 12, 13, 14], [], [16], [16, 17], [], [19], [19, 20], [16, 17, 18, 19, 20, 21], [16, 17, 18, 19, 20, 21, 22], [16, 17, 18, 19, 20, 21, 22, 23], [], [25], [25, 26], [25, 26, 27], [16, 17, 18, 19, 20, 21, 22, 23, 24, 25, 26, 27, 28], [8, 9, 10, 11, 12, 13, 14, 15, 16, 17, 18, 19, 20, 21, 22, 23, 24, 25, 26, 27, 28, 29], [1, 2, 3, 4, 5, 6, 7, 8, 9, 10, 11, 12, 13, 14, 16, 17, 18, 19, 20, 21, 22, 23, 24, 25, 26, 27, 28, 30], [1, 2, 3, 4, 5, 6, 7, 8, 9, 10, 11, 12, 13, 14, 16, 17, 18, 19, 20, 21, 22, 23, 24, 25, 26, 27, 28, 31], [0, 1, 2, 3, 4, 5, 6, 7, 8, 9, 10, 11, 12, 13, 14, 15, 16, 17, 18, 19, 20, 21, 22, 23, 24, 25, 26, 27, 28, 29, 30, 31, 32], [0, 1, 2, 3, 4, 5, 6, 7, 8, 9, 10, 11, 12, 13, 14, 15, 16, 17, 18, 19, 20, 21, 22, 23, 24, 25, 26, 27, 28, 29, 30, 31, 32, 33]] (rel [is (.slice (some ⟨b0, 0, none⟩) 0 0), iI 0, iI 3, is (.pointer (some ⟨(s1 1), 3, none⟩)), is (.int .u8 ((vv 3))), iI ((vv 3)), iI (2 * (vv 3)), iI (150 + (2 * (vv 3))), is (.pointer (some ⟨(s1 1), 6, none⟩)), is (.int .u8 ((vv 6))), iI ((vv 6)), iI 0, iI 0, is (.int .u64 0), iI ((vv 6)), iI ((vv 6) % 4), is (.pointer (some ⟨(s1 1), 6, none⟩)), is (.int .u8 ((vv 6))), iI ((vv 6)), iI 0, iI 0, is (.int .u64 0), iI ((vv 6)), iI ((vv 6) % 4), iI (((vv 6) % 4) + 1), is (.pointer (some ⟨(s1 1), 7, none⟩)), is (.int .u8 ((vv 7))), iI ((vv 7)), iI ((vv 7) % 8), iI ((((vv 6) % 4) + 1) + ((vv 7) % 8)), is (.agg #[.int .i64 ((vv 6) % 4), .int .i64 ((((vv 6) % 4) + 1) + ((vv 7) % 8))]), is (.agg #[.int .i64 (150 + (2 * (vv 3))), .int .i64 ((vv 6) % 4), .int .i64 ((((vv 6) % 4) + 1) + ((vv 7) % 8))]), row 32 1 #[.int .i64 (150 + (2 * (vv 3))), .int .i64 ((vv 6) % 4), .int .i64 ((((vv 6) % 4) + 1) + ((vv 7) % 8))] 65])
  ⟨fun f s W hW l m p r a => opm (a.v 8 ((p 34 8 rfl rfl).trans k5_8)),
  fun f s W hW l m p r a => opm (a.v 9 k5_9),
  fun f s W hW l m p r a => opv rfl rfl (by simp [go_sem, a.e 63 (l 1 rfl), IntWalk.i64_in (3) (by omega)]) rfl,
  fun f s W hW l m p r a => opv rfl rfl (by simp [go_sem, a.e 4 k5_4, a.e 64 (l 2 rfl)]) rfl,
  fun f s W hW l m p r a => opv rfl rfl (by simp [go_sem, a.e 65 (l 3 rfl), cl (bwb b5_1 hW) 3]) rfl,
  fun f s W hW l m p r a => by have cv_ := IntWalk.i64_in ((vv 3)) (by omega); exact opv rfl rfl (by simp [go_sem, a.e 66 (l 4 rfl), cv_]) rfl,
  fun f s W hW l m p r a => opv rfl rfl (by simp [go_sem, a.e 67 (l 5 rfl), IntWalk.i64_in (2 * (vv 3)) (by omega)]) rfl,
  fun f s W hW l m p r a => opv rfl rfl (by simp [go_sem, a.e 68 (l 6 rfl), IntWalk.i64_in (150 + (2 * (vv 3))) (by omega)]) rfl,
  fun f s W hW l m p r a => opv rfl rfl (by simp [go_sem, a.e 4 k5_4]) rfl,
  fun f s W hW l m p r a => opv rfl rfl (by simp [go_sem, a.e 70 (l 8 rfl), cl (bwb b5_1 hW) 6]) rfl,
  fun f s W hW l m p r a => by have cv_ := IntWalk.i64_in ((vv 6)) (by omega); exact opv rfl rfl (by simp [go_sem, a.e 71 (l 9 rfl), cv_]) rfl,
  fun f s W hW l m p r a => opm (a.v 9 k5_9),
  fun f s W hW l m p r a => opv rfl rfl (by simp [go_sem, a.e 73 (l 11 rfl), IntWalk.i64_in (0) (by omega)]) rfl,
  fun f s W hW l m p r a => by have cv_ := IntWalk.u64_in (0) (by omega); exact opv rfl rfl (by simp [go_sem, a.e 74 (l 12 rfl), cv_]) rfl,
  fun f s W hW l m p r a => opv (v := .int .i64 ((vv 6))) rfl rfl (binop_lit rfl (a.v 72 (l 10 rfl)) (a.v 75 (l 13 rfl)) ((shr_lit (n := 0) (by omega) (by decide) 1 rfl).trans (by rw [Int.ediv_one]))) rfl,
  fun f s W hW l m p r a => by have qu_ : ((vv 6)).tmod 4 = (vv 6) % 4 := Int.tmod_eq_emod_of_nonneg (by omega); have qw_ := IntWalk.i64_in ((vv 6) % 4) (by omega); exact opv rfl rfl (by simp [go_sem, a.e 76 (l 14 rfl), qu_, qw_]) rfl,
  fun f s W hW l m p r a => opv rfl rfl (by simp [go_sem, a.e 4 k5_4]) rfl,
  fun f s W hW l m p r a => opv rfl rfl (by simp [go_sem, a.e 78 (l 16 rfl), cl (bwb b5_1 hW) 6]) rfl,
  fun f s W hW l m p r a => by have cv_ := IntWalk.i64_in ((vv 6)) (by omega); exact opv rfl rfl (by simp [go_sem, a.e 79 (l 17 rfl), cv_]) rfl,
  fun f s W hW l m p r a => opm (a.v 9 k5_9),
  fun f s W hW l m p r a => opv rfl rfl (by simp [go_sem, a.e 81 (l 19 rfl), IntWalk.i64_in (0) (by omega)]) rfl,
  fun f s W hW l m p r a => by have cv_ := IntWalk.u64_in (0) (by omega); exact opv rfl rfl (by simp [go_sem, a.e 82 (l 20 rfl), cv_]) rfl,
  fun f s W hW l m p r a => opv (v := .int .i64 ((vv 6))) rfl rfl (binop_lit rfl (a.v 80 (l 18 rfl)) (a.v 83 (l 21 rfl)) ((shr_lit (n := 0) (by omega) (by decide) 1 rfl).trans (by rw [Int.ediv_one]))) rfl,
  fun f s W hW l m p r a => by have qu_ : ((vv 6)).tmod 4 = (vv 6) % 4 := Int.tmod_eq_emod_of_nonneg (by omega); have qw_ := IntWalk.i64_in ((vv 6) % 4) (by omega); exact opv rfl rfl (by simp [go_sem, a.e 84 (l 22 rfl), qu_, qw_]) rfl,
  fun f s W hW l m p r a => opv rfl rfl (by simp [go_sem, a.e 85 (l 23 rfl), IntWalk.i64_in (((vv 6) % 4) + 1) (by omega)]) rfl,
  fun f s W hW l m p r a => opv rfl rfl (by simp [go_sem, a.e 4 k5_4]) rfl,
  fun f s W hW l m p r a => opv rfl rfl (by simp [go_sem, a.e 87 (l 25 rfl), cl (bwb b5_1 hW) 7]) rfl,
  fun f s W hW l m p r a => by have cv_ := IntWalk.i64_in ((vv 7)) (by omega); exact opv rfl rfl (by simp [go_sem, a.e 88 (l 26 rfl), cv_]) rfl,
  fun f s W hW l m p r a => by have qu_ : ((vv 7)).tmod 8 = (vv 7) % 8 := Int.tmod_eq_emod_of_nonneg (by omega); have qw_ := IntWalk.i64_in ((vv 7) % 8) (by omega); exact opv rfl rfl (by simp [go_sem, a.e 89 (l 27 rfl), qu_, qw_]) rfl,
  fun f s W hW l m p r a => opv rfl rfl (by simp [go_sem, a.e 86 (l 24 rfl), a.e 90 (l 28 rfl), IntWalk.i64_in ((((vv 6) % 4) + 1) + ((vv 7) % 8)) (by omega)]) rfl,
  fun f s W hW l m p r a => opc rfl rfl (by simp [go_sem, a.e 77 (l 15 rfl), a.e 91 (l 29 rfl)]) (arm_spanR ((vv 6) % 4) ((((vv 6) % 4) + 1) + ((vv 7) % 8)) W),
  fun f s W hW l m p r a => opv rfl rfl (by simp [go_sem, a.e 69 (l 7 rfl), a.e 92 (l 30 rfl)]) rfl,
  fun f s W hW l m p r a => opr rfl rfl (by simp [go_sem, a.e 93 (l 31 rfl)]), trivial⟩ ?_
 intro f6 s6 W6 hB6 g6 hg6 z6
 have fB6 := hB6.f (hB5.f (hB4.f fB2))
 have b6_0 := hB6.b (hB5.b (hB4.b b2_0))
 have b6_1 := hB6.b b5_1
 have b6_2 := hB6.b (hB5.b (hB4.b bs2_18))
 have q33' := (q32'.below hB6.below)
 obtain ⟨r6_32, br6_32⟩ := hB6.is 32
 have lr6_32 := hB6.lr 32 br6_32
 have k6_62 := kt hg6 62 (hB6.is 0)
 have k6_94 := kt hg6 94 r6_32
 obtain ⟨ga7, ca7, W7, ra7, ow7, ot7, z7, gg7, fB7⟩ := growN_tail 62 62 65 3 24 _ (by kernel_rfl) infoO rfl (orC (rollO vv) 1) 1 (off := 0) (k := 1) (c' := 1) [.int .i64 (150 + (2 * (vv 3))), .int .i64 ((vv 6) % 4), .int .i64 ((((vv 6) % 4) + 1) + ((vv 7) % 8))] fB6 q33' rfl rfl rfl rfl (cells_at br6_32) (by omega)
 refine tail_value2 (o := _) rfl rfl rfl (run_appendOp (fr_ev k6_62) (fr_ev k6_94) ra7) ?_
 have b7_0 := ot7 _ _ (ownN_ne q33' b6_0 (by decide)) b6_0
 have b7_1 := ot7 _ _ (ownN_ne q33' b6_1 (by decide)) b6_1
 have b7_2 := ot7 _ _ (ownN_ne q33' b6_2 (by decide)) b6_2
 have on7 : OwnN 65 3 w.heap.size 1 (orC (rollO vv) 1) (some ⟨ga7, 0, none⟩) ca7 W7 := .inr ⟨_, rfl, ow7⟩
 generalize hg7 : upd g6 95 (.slice (some ⟨ga7, 0, none⟩) 1 ca7) = g7
 have k7_95 := kt hg7 95 (upd_same _ _ _)
 refine tail_value (o := _) rfl rfl rfl (v := .slice (some ⟨ga7, 0, none⟩) 1 ca7) (by simp [go_sem, frv 426 k7_95]) ?_
 generalize hg8 : upd g7 8 (.slice (some ⟨ga7, 0, none⟩) 1 ca7) = g8
 have k8_9 := ku hg8 9 (ku hg7 9 (kt hg6 9 k5_9))
 refine wpe ?_
 refine ibn ?_
 refine hK8 _ _ ?_
 refine ry 3 [(60, 0), (61, 1), (9, 2)] [[], [0], [0, 1]] (rel [iI 0, iI 1, iI 1])
  ⟨fun f s W hW l m p r a => opm (a.v 9 ((p 2 9 rfl rfl).trans k8_9)),
  fun f s W hW l m p r a => opv rfl rfl (by simp [go_sem, a.e 60 (l 0 rfl), IntWalk.i64_in (1) (by omega)]) rfl,
  fun f s W hW l m p r a => opm (a.v 61 (l 1 rfl)), trivial⟩ ?_
 intro f9 s9 W9 hB9 g9 hg9 z9
 have q34' := (on7.below hB9.below)
 refine wpe ?_
 have k9_9 := kt hg9 9 (hB9.is 2)
 refine then_normal ?_
 rw [rounds_succ]
 refine wp_seq_k fun K9 hK9 => ?_
 refine rw_ 2 [(58, 0), (59, 1)] [[], [0]] (rel [iI 1, iB true])
  ⟨fun f s W hW l m p r a => opm (a.v 9 k9_9),
  fun f s W hW l m p r a => opv rfl rfl (by simp [go_sem, a.e 58 (l 0 rfl)]) rfl, trivial⟩ ?_
 intro f10 s10 W10 hB10 g10 hg10 z10
 have b10_1 := hB10.b (hB9.b b7_1)
 have q35' := (q34'.below hB10.below)
 have k10_4 := kt hg10 4 (kt hg9 4 (ku hg8 4 (ku hg7 4 (kt hg6 4 k5_4))))
 have k10_8 := kt hg10 8 (kt hg9 8 (kt hg8 8 (upd_same _ _ _)))
 have k10_9 := kt hg10 9 k9_9
 have k10_59 := kt hg10 59 (hB10.is 1)
 refine wp_cond_true ((fr_eval rfl).trans k10_59) ?_
 refine wp_skip ?_
 refine hK9 _ _ ?_
 refine wp_seq_k fun K12 hK12 => ?_
 refine wp_block ?_
 refine ry 33 [(62, 0), (63, 1), (64, 2), (65, 3), (66, 4), (67, 5), (68, 6), (69, 7), (70, 8), (71, 9), (72, 10), (73, 11), (74, 12), (75, 13), (76, 14), (77, 15), (78, 16), (79, 17), (80, 18), (81, 19), (82, 20), (83, 21), (84, 22), (85, 23), (86, 24), (87, 25), (88, 26), (89, 27), (90, 28), (91, 29), (92, 30), (93, 31), (94, 32), (95, 33), (8, 34)] [[], [], [1], [1, 2], [1, 2, 3], [1, 2, 3, 4], [1, 2, 3, 4, 5], [1, 2, 3, 4, 5, 6], [], [8], [8, 9], [], [11], [11, 12], [8, 9, 10, 11, 12, 13], [8, 9, 10, 11, 12, 13, 14], [], [16], [16, 17], [], [19], [19, 20], [16, 17, 18, 19, 20, 21], [16, 17, 18, 19, 20, 21, 22], [16, 17, 18, 19, 20, 21, 22, 23], [], [25], [25, 26], [25, 26, 27], [16, 17, 18, 19, 20, 21, 22, 23, 24, 25, 26, 27, 28], [8, 9, 10, 11, 12, 13, 14, 15, 16, 17, 18, 19, 20, 21, 22, 23, 24, 25, 26, 27, 28, 29], [1, 2, 3, 4, 5, 6, 7, 8, 9, 10, 11, 12, 13, 14, 16, 17, 18, 19, 20, 21, 22, 23, 24, 25, 26, 27, 28, 30], [1, 2, 3, 4, 5, 6, 7, 8, 9, 10, 11, 12, 13, 14, 16, 17, 18, 19, 20, 21, 22, 23, 24, 25, 26, 27, 28, 31], [0, 1, 2, 3, 4, 5, 6, 7, 8, 9, 10, 11, 12, 13, 14, 15, 16, 17, 18, 19, 20, 21, 22, 23, 24, 25, 26, 27, 28, 29, 30, 31, 32], [0, 1, 2, 3, 4, 5, 6, 7, 8, 9, 10, 11, 12, 13, 14, 15, 16, 17, 18, 19, 20, 21, 22, 23, 24, 25, 26, 27, 28, 29, 30, 31, 32, 33]] (rel [is (.slice (some ⟨ga7, 0, none⟩) 1 ca7), iI 1, iI 4, is (.pointer (some ⟨(s1 1), 4, none⟩)), is (.int .u8 ((vv 4))), iI ((vv 4)), iI (2 * (vv 4)), iI (150 + (2 * (vv 4))), is (.pointer (some ⟨(s1 1), 6, none⟩)), is (.int .u8 ((vv 6))), iI ((vv 6)), iI 1, iI 2, is (.int .u64 2), iI ((vv 6) / 4), iI ((vv 6) / 4 % 4), is (.pointer (some ⟨(s1 1), 6, none⟩)), is (.int .u8 ((vv 6))), iI ((vv 6)), iI 1, iI 2, is (.int .u64 2), iI ((vv 6) / 4), iI ((vv 6) / 4 % 4), iI (((vv 6) / 4 % 4) + 1), is (.pointer (some ⟨(s1 1), 7, none⟩)), is (.int .u8 ((vv 7))), iI ((vv 7)), iI ((vv 7) % 8), iI ((((vv 6) / 4 % 4) + 1) + ((vv 7) % 8)), is (.agg #[.int .i64 ((vv 6) / 4 % 4), .int .i64 ((((vv 6) / 4 % 4) + 1) + ((vv 7) % 8))]), is (.agg #[.int .i64 (150 + (2 * (vv 4))), .int .i64 ((vv 6) / 4 % 4), .int .i64 ((((vv 6) / 4 % 4) + 1) + ((vv 7) % 8))]), row 32 1 #[.int .i64 (150 + (2 * (vv 4))), .int .i64 ((vv 6) / 4 % 4), .int .i64 ((((vv 6) / 4 % 4) + 1) + ((vv 7) % 8))] 65])
  ⟨fun f s W hW l m p r a => opm (a.v 8 ((p 34 8 rfl rfl).trans k10_8)),
  fun f s W hW l m p r a => opm (a.v 9 k10_9),
  fun f s W hW l m p r a => opv rfl rfl (by simp [go_sem, a.e 63 (l 1 rfl), IntWalk.i64_in (4) (by omega)]) rfl,
  fun f s W hW l m p r a => opv rfl rfl (by simp [go_sem, a.e 4 k10_4, a.e 64 (l 2 rfl)]) rfl,
  fun f s W hW l m p r a => opv rfl rfl (by simp [go_sem, a.e 65 (l 3 rfl), cl (bwb b10_1 hW) 4]) rfl,
  fun f s W hW l m p r a => by have cv_ := IntWalk.i64_in ((vv 4)) (by omega); exact opv rfl rfl (by simp [go_sem, a.e 66 (l 4 rfl), cv_]) rfl,
  fun f s W hW l m p r a => opv rfl rfl (by simp [go_sem, a.e 67 (l 5 rfl), IntWalk.i64_in (2 * (vv 4)) (by omega)]) rfl,
  fun f s W hW l m p r a => opv rfl rfl (by simp [go_sem, a.e 68 (l 6 rfl), IntWalk.i64_in (150 + (2 * (vv 4))) (by omega)]) rfl,
  fun f s W hW l m p r a => opv rfl rfl (by simp [go_sem, a.e 4 k10_4]) rfl,
  fun f s W hW l m p r a => opv rfl rfl (by simp [go_sem, a.e 70 (l 8 rfl), cl (bwb b10_1 hW) 6]) rfl,
  fun f s W hW l m p r a => by have cv_ := IntWalk.i64_in ((vv 6)) (by omega); exact opv rfl rfl (by simp [go_sem, a.e 71 (l 9 rfl), cv_]) rfl,
  fun f s W hW l m p r a => opm (a.v 9 k10_9),
  fun f s W hW l m p r a => opv rfl rfl (by simp [go_sem, a.e 73 (l 11 rfl), IntWalk.i64_in (2) (by omega)]) rfl,
  fun f s W hW l m p r a => by have cv_ := IntWalk.u64_in (2) (by omega); exact opv rfl rfl (by simp [go_sem, a.e 74 (l 12 rfl), cv_]) rfl,
  fun f s W hW l m p r a => opv (v := .int .i64 ((vv 6) / 4)) rfl rfl (binop_lit rfl (a.v 72 (l 10 rfl)) (a.v 75 (l 13 rfl)) (shr_lit (n := 2) (by omega) (by decide) 4 rfl)) rfl,
  fun f s W hW l m p r a => by have qu_ : ((vv 6) / 4).tmod 4 = (vv 6) / 4 % 4 := Int.tmod_eq_emod_of_nonneg (by omega); have qw_ := IntWalk.i64_in ((vv 6) / 4 % 4) (by omega); exact opv rfl rfl (by simp [go_sem, a.e 76 (l 14 rfl), qu_, qw_]) rfl,
  fun f s W hW l m p r a => opv rfl rfl (by simp [go_sem, a.e 4 k10_4]) rfl,
  fun f s W hW l m p r a => opv rfl rfl (by simp [go_sem, a.e 78 (l 16 rfl), cl (bwb b10_1 hW) 6]) rfl,
  fun f s W hW l m p r a => by have cv_ := IntWalk.i64_in ((vv 6)) (by omega); exact opv rfl rfl (by simp [go_sem, a.e 79 (l 17 rfl), cv_]) rfl,
  fun f s W hW l m p r a => opm (a.v 9 k10_9),
  fun f s W hW l m p r a => opv rfl rfl (by simp [go_sem, a.e 81 (l 19 rfl), IntWalk.i64_in (2) (by omega)]) rfl,
  fun f s W hW l m p r a => by have cv_ := IntWalk.u64_in (2) (by omega); exact opv rfl rfl (by simp [go_sem, a.e 82 (l 20 rfl), cv_]) rfl,
  fun f s W hW l m p r a => opv (v := .int .i64 ((vv 6) / 4)) rfl rfl (binop_lit rfl (a.v 80 (l 18 rfl)) (a.v 83 (l 21 rfl)) (shr_lit (n := 2) (by omega) (by decide) 4 rfl)) rfl,
  fun f s W hW l m p r a => by have qu_ : ((vv 6) / 4).tmod 4 = (vv 6) / 4 % 4 := Int.tmod_eq_emod_of_nonneg (by omega); have qw_ := IntWalk.i64_in ((vv 6) / 4 % 4) (by omega); exact opv rfl rfl (by simp [go_sem, a.e 84 (l 22 rfl), qu_, qw_]) rfl,
  fun f s W hW l m p r a => opv rfl rfl (by simp [go_sem, a.e 85 (l 23 rfl), IntWalk.i64_in (((vv 6) / 4 % 4) + 1) (by omega)]) rfl,
  fun f s W hW l m p r a => opv rfl rfl (by simp [go_sem, a.e 4 k10_4]) rfl,
  fun f s W hW l m p r a => opv rfl rfl (by simp [go_sem, a.e 87 (l 25 rfl), cl (bwb b10_1 hW) 7]) rfl,
  fun f s W hW l m p r a => by have cv_ := IntWalk.i64_in ((vv 7)) (by omega); exact opv rfl rfl (by simp [go_sem, a.e 88 (l 26 rfl), cv_]) rfl,
  fun f s W hW l m p r a => by have qu_ : ((vv 7)).tmod 8 = (vv 7) % 8 := Int.tmod_eq_emod_of_nonneg (by omega); have qw_ := IntWalk.i64_in ((vv 7) % 8) (by omega); exact opv rfl rfl (by simp [go_sem, a.e 89 (l 27 rfl), qu_, qw_]) rfl,
  fun f s W hW l m p r a => opv rfl rfl (by simp [go_sem, a.e 86 (l 24 rfl), a.e 90 (l 28 rfl), IntWalk.i64_in ((((vv 6) / 4 % 4) + 1) + ((vv 7) % 8)) (by omega)]) rfl,
  fun f s W hW l m p r a => opc rfl rfl (by simp [go_sem, a.e 77 (l 15 rfl), a.e 91 (l 29 rfl)]) (arm_spanR ((vv 6) / 4 % 4) ((((vv 6) / 4 % 4) + 1) + ((vv 7) % 8)) W),
  fun f s W hW l m p r a => opv rfl rfl (by simp [go_sem, a.e 69 (l 7 rfl), a.e 92 (l 30 rfl)]) rfl,
  fun f s W hW l m p r a => opr rfl rfl (by simp [go_sem, a.e 93 (l 31 rfl)]), trivial⟩ ?_
 intro f11 s11 W11 hB11 g11 hg11 z11
 have fB11 := hB11.f (hB10.f (hB9.f fB7))
 have b11_0 := hB11.b (hB10.b (hB9.b b7_0))
 have b11_1 := hB11.b b10_1
 have b11_2 := hB11.b (hB10.b (hB9.b b7_2))
 have q36' := (q35'.below hB11.below)
 obtain ⟨r11_32, br11_32⟩ := hB11.is 32
 have lr11_32 := hB11.lr 32 br11_32
 have k11_62 := kt hg11 62 (hB11.is 0)
 have k11_94 := kt hg11 94 r11_32
 obtain ⟨ga12, ca12, W12, ra12, ow12, ot12, z12, gg12, fB12⟩ := growN_tail 62 62 65 3 24 _ (by kernel_rfl) infoO rfl (orC (rollO vv) 2) 2 (off := 0) (k := 1) (c' := 1) [.int .i64 (150 + (2 * (vv 4))), .int .i64 ((vv 6) / 4 % 4), .int .i64 ((((vv 6) / 4 % 4) + 1) + ((vv 7) % 8))] fB11 q36' rfl rfl rfl rfl (cells_at br11_32) (by omega)
 refine tail_value2 (o := _) rfl rfl rfl (run_appendOp (fr_ev k11_62) (fr_ev k11_94) ra12) ?_
 have b12_0 := ot12 _ _ (ownN_ne q36' b11_0 (by decide)) b11_0
 have b12_1 := ot12 _ _ (ownN_ne q36' b11_1 (by decide)) b11_1
 have b12_2 := ot12 _ _ (ownN_ne q36' b11_2 (by decide)) b11_2
 have on12 : OwnN 65 3 w.heap.size 2 (orC (rollO vv) 2) (some ⟨ga12, 0, none⟩) ca12 W12 := .inr ⟨_, rfl, ow12⟩
 generalize hg12 : upd g11 95 (.slice (some ⟨ga12, 0, none⟩) 2 ca12) = g12
 have k12_95 := kt hg12 95 (upd_same _ _ _)
 refine tail_value (o := _) rfl rfl rfl (v := .slice (some ⟨ga12, 0, none⟩) 2 ca12) (by simp [go_sem, frv 426 k12_95]) ?_
 generalize hg13 : upd g12 8 (.slice (some ⟨ga12, 0, none⟩) 2 ca12) = g13
 have k13_9 := ku hg13 9 (ku hg12 9 (kt hg11 9 k10_9))
 refine wpe ?_
 refine ibn ?_
 refine hK12 _ _ ?_
 refine ry 3 [(60, 0), (61, 1), (9, 2)] [[], [0], [0, 1]] (rel [iI 1, iI 2, iI 2])
  ⟨fun f s W hW l m p r a => opm (a.v 9 ((p 2 9 rfl rfl).trans k13_9)),
  fun f s W hW l m p r a => opv rfl rfl (by simp [go_sem, a.e 60 (l 0 rfl), IntWalk.i64_in (2) (by omega)]) rfl,
  fun f s W hW l m p r a => opm (a.v 61 (l 1 rfl)), trivial⟩ ?_
 intro f14 s14 W14 hB14 g14 hg14 z14
 have q37' := (on12.below hB14.below)
 refine wpe ?_
 have k14_9 := kt hg14 9 (hB14.is 2)
 refine then_normal ?_
 rw [rounds_succ]
 refine wp_seq_k fun K13 hK13 => ?_
 refine rw_ 2 [(58, 0), (59, 1)] [[], [0]] (rel [iI 2, iB true])
  ⟨fun f s W hW l m p r a => opm (a.v 9 k14_9),
  fun f s W hW l m p r a => opv rfl rfl (by simp [go_sem, a.e 58 (l 0 rfl)]) rfl, trivial⟩ ?_
 intro f15 s15 W15 hB15 g15 hg15 z15
 have b15_1 := hB15.b (hB14.b b12_1)
 have q38' := (q37'.below hB15.below)
 have k15_4 := kt hg15 4 (kt hg14 4 (ku hg13 4 (ku hg12 4 (kt hg11 4 k10_4))))
 have k15_8 := kt hg15 8 (kt hg14 8 (kt hg13 8 (upd_same _ _ _)))
 have k15_9 := kt hg15 9 k14_9
 have k15_59 := kt hg15 59 (hB15.is 1)
 refine wp_cond_true ((fr_eval rfl).trans k15_59) ?_
 refine wp_skip ?_
 refine hK13 _ _ ?_
 refine wp_seq_k fun K16 hK16 => ?_
 refine wp_block ?_
 refine ry 33 [(62, 0), (63, 1), (64, 2), (65, 3), (66, 4), (67, 5), (68, 6), (69, 7), (70, 8), (71, 9), (72, 10), (73, 11), (74, 12), (75, 13), (76, 14), (77, 15), (78, 16), (79, 17), (80, 18), (81, 19), (82, 20), (83, 21), (84, 22), (85, 23), (86, 24), (87, 25), (88, 26), (89, 27), (90, 28), (91, 29), (92, 30), (93, 31), (94, 32), (95, 33), (8, 34)] [[], [], [1], [1, 2], [1, 2, 3], [1, 2, 3, 4], [1, 2, 3, 4, 5], [1, 2, 3, 4, 5, 6], [], [8], [8, 9], [], [11], [11, 12], [8, 9, 10, 11, 12, 13], [8, 9, 10, 11, 12, 13, 14], [], [16], [16, 17], [], [19], [19, 20], [16, 17, 18, 19, 20, 21], [16, 17, 18, 19, 20, 21, 22], [16, 17, 18, 19, 20, 21, 22, 23], [], [25], [25, 26], [25, 26, 27], [16, 17, 18, 19, 20, 21, 22, 23, 24, 25, 26, 27, 28], [8, 9, 10, 11, 12, 13, 14, 15, 16, 17, 18, 19, 20, 21, 22, 23, 24, 25, 26, 27, 28, 29], [1, 2, 3, 4, 5, 6, 7, 8, 9, 10, 11, 12, 13, 14, 16, 17, 18, 19, 20, 21, 22, 23, 24, 25, 26, 27, 28, 30], [1, 2, 3, 4, 5, 6, 7, 8, 9, 10, 11, 12, 13, 14, 16, 17, 18, 19, 20, 21, 22, 23, 24, 25, 26, 27, 28, 31], [0, 1, 2, 3, 4, 5, 6, 7, 8, 9, 10, 11, 12, 13, 14, 15, 16, 17, 18, 19, 20, 21, 22, 23, 24, 25, 26, 27, 28, 29, 30, 31, 32], [0, 1, 2, 3, 4, 5, 6, 7, 8, 9, 10, 11, 12, 13, 14, 15, 16, 17, 18, 19, 20, 21, 22, 23, 24, 25, 26, 27, 28, 29, 30, 31, 32, 33]] (rel [is (.slice (some ⟨ga12, 0, none⟩) 2 ca12), iI 2, iI 5, is (.pointer (some ⟨(s1 1), 5, none⟩)), is (.int .u8 ((vv 5))), iI ((vv 5)), iI (2 * (vv 5)), iI (150 + (2 * (vv 5))), is (.pointer (some ⟨(s1 1), 6, none⟩)), is (.int .u8 ((vv 6))), iI ((vv 6)), iI 2, iI 4, is (.int .u64 4), iI ((vv 6) / 16), iI ((vv 6) / 16 % 4), is (.pointer (some ⟨(s1 1), 6, none⟩)), is (.int .u8 ((vv 6))), iI ((vv 6)), iI 2, iI 4, is (.int .u64 4), iI ((vv 6) / 16), iI ((vv 6) / 16 % 4), iI (((vv 6) / 16 % 4) + 1), is (.pointer (some ⟨(s1 1), 7, none⟩)), is (.int .u8 ((vv 7))), iI ((vv 7)), iI ((vv 7) % 8), iI ((((vv 6) / 16 % 4) + 1) + ((vv 7) % 8)), is (.agg #[.int .i64 ((vv 6) / 16 % 4), .int .i64 ((((vv 6) / 16 % 4) + 1) + ((vv 7) % 8))]), is (.agg #[.int .i64 (150 + (2 * (vv 5))), .int .i64 ((vv 6) / 16 % 4), .int .i64 ((((vv 6) / 16 % 4) + 1) + ((vv 7) % 8))]), row 32 1 #[.int .i64 (150 + (2 * (vv 5))), .int .i64 ((vv 6) / 16 % 4), .int .i64 ((((vv 6) / 16 % 4) + 1) + ((vv 7) % 8))] 65])
  ⟨fun f s W hW l m p r a => opm (a.v 8 ((p 34 8 rfl rfl).trans k15_8)),
  fun f s W hW l m p r a => opm (a.v 9 k15_9),
  fun f s W hW l m p r a => opv rfl rfl (by simp [go_sem, a.e 63 (l 1 rfl), IntWalk.i64_in (5) (by omega)]) rfl,
  fun f s W hW l m p r a => opv rfl rfl (by simp [go_sem, a.e 4 k15_4, a.e 64 (l 2 rfl)]) rfl,
  fun f s W hW l m p r a => opv rfl rfl (by simp [go_sem, a.e 65 (l 3 rfl), cl (bwb b15_1 hW) 5]) rfl,
  fun f s W hW l m p r a => by have cv_ := IntWalk.i64_in ((vv 5)) (by omega); exact opv rfl rfl (by simp [go_sem, a.e 66 (l 4 rfl), cv_]) rfl,
  fun f s W hW l m p r a => opv rfl rfl (by simp [go_sem, a.e 67 (l 5 rfl), IntWalk.i64_in (2 * (vv 5)) (by omega)]) rfl,
  fun f s W hW l m p r a => opv rfl rfl (by simp [go_sem, a.e 68 (l 6 rfl), IntWalk.i64_in (150 + (2 * (vv 5))) (by omega)]) rfl,
  fun f s W hW l m p r a => opv rfl rfl (by simp [go_sem, a.e 4 k15_4]) rfl,
  fun f s W hW l m p r a => opv rfl rfl (by simp [go_sem, a.e 70 (l 8 rfl), cl (bwb b15_1 hW) 6]) rfl,
  fun f s W hW l m p r a => by have cv_ := IntWalk.i64_in ((vv 6)) (by omega); exact opv rfl rfl (by simp [go_sem, a.e 71 (l 9 rfl), cv_]) rfl,
  fun f s W hW l m p r a => opm (a.v 9 k15_9),
  fun f s W hW l m p r a => opv rfl rfl (by simp [go_sem, a.e 73 (l 11 rfl), IntWalk.i64_in (4) (by omega)]) rfl,
  fun f s W hW l m p r a => by have cv_ := IntWalk.u64_in (4) (by omega); exact opv rfl rfl (by simp [go_sem, a.e 74 (l 12 rfl), cv_]) rfl,
  fun f s W hW l m p r a => opv (v := .int .i64 ((vv 6) / 16)) rfl rfl (binop_lit rfl (a.v 72 (l 10 rfl)) (a.v 75 (l 13 rfl)) (shr_lit (n := 4) (by omega) (by decide) 16 rfl)) rfl,
  fun f s W hW l m p r a => by have qu_ : ((vv 6) / 16).tmod 4 = (vv 6) / 16 % 4 := Int.tmod_eq_emod_of_nonneg (by omega); have qw_ := IntWalk.i64_in ((vv 6) / 16 % 4) (by omega); exact opv rfl rfl (by simp [go_sem, a.e 76 (l 14 rfl), qu_, qw_]) rfl,
  fun f s W hW l m p r a => opv rfl rfl (by simp [go_sem, a.e 4 k15_4]) rfl,
  fun f s W hW l m p r a => opv rfl rfl (by simp [go_sem, a.e 78 (l 16 rfl), cl (bwb b15_1 hW) 6]) rfl,
  fun f s W hW l m p r a => by have cv_ := IntWalk.i64_in ((vv 6)) (by omega); exact opv rfl rfl (by simp [go_sem, a.e 79 (l 17 rfl), cv_]) rfl,
  fun f s W hW l m p r a => opm (a.v 9 k15_9),
  fun f s W hW l m p r a => opv rfl rfl (by simp [go_sem, a.e 81 (l 19 rfl), IntWalk.i64_in (4) (by omega)]) rfl,
  fun f s W hW l m p r a => by have cv_ := IntWalk.u64_in (4) (by omega); exact opv rfl rfl (by simp [go_sem, a.e 82 (l 20 rfl), cv_]) rfl,
  fun f s W hW l m p r a => opv (v := .int .i64 ((vv 6) / 16)) rfl rfl (binop_lit rfl (a.v 80 (l 18 rfl)) (a.v 83 (l 21 rfl)) (shr_lit (n := 4) (by omega) (by decide) 16 rfl)) rfl,
  fun f s W hW l m p r a => by have qu_ : ((vv 6) / 16).tmod 4 = (vv 6) / 16 % 4 := Int.tmod_eq_emod_of_nonneg (by omega); have qw_ := IntWalk.i64_in ((vv 6) / 16 % 4) (by omega); exact opv rfl rfl (by simp [go_sem, a.e 84 (l 22 rfl), qu_, qw_]) rfl,
  fun f s W hW l m p r a => opv rfl rfl (by simp [go_sem, a.e 85 (l 23 rfl), IntWalk.i64_in (((vv 6) / 16 % 4) + 1) (by omega)]) rfl,
  fun f s W hW l m p r a => opv rfl rfl (by simp [go_sem, a.e 4 k15_4]) rfl,
  fun f s W hW l m p r a => opv rfl rfl (by simp [go_sem, a.e 87 (l 25 rfl), cl (bwb b15_1 hW) 7]) rfl,
  fun f s W hW l m p r a => by have cv_ := IntWalk.i64_in ((vv 7)) (by omega); exact opv rfl rfl (by simp [go_sem, a.e 88 (l 26 rfl), cv_]) rfl,
  fun f s W hW l m p r a => by have qu_ : ((vv 7)).tmod 8 = (vv 7) % 8 := Int.tmod_eq_emod_of_nonneg (by omega); have qw_ := IntWalk.i64_in ((vv 7) % 8) (by omega); exact opv rfl rfl (by simp [go_sem, a.e 89 (l 27 rfl), qu_, qw_]) rfl,
  fun f s W hW l m p r a => opv rfl rfl (by simp [go_sem, a.e 86 (l 24 rfl), a.e 90 (l 28 rfl), IntWalk.i64_in ((((vv 6) / 16 % 4) + 1) + ((vv 7) % 8)) (by omega)]) rfl,
  fun f s W hW l m p r a => opc rfl rfl (by simp [go_sem, a.e 77 (l 15 rfl), a.e 91 (l 29 rfl)]) (arm_spanR ((vv 6) / 16 % 4) ((((vv 6) / 16 % 4) + 1) + ((vv 7) % 8)) W),
  fun f s W hW l m p r a => opv rfl rfl (by simp [go_sem, a.e 69 (l 7 rfl), a.e 92 (l 30 rfl)]) rfl,
  fun f s W hW l m p r a => opr rfl rfl (by simp [go_sem, a.e 93 (l 31 rfl)]), trivial⟩ ?_
 intro f16 s16 W16 hB16 g16 hg16 z16
 have fB16 := hB16.f (hB15.f (hB14.f fB12))
 have b16_0 := hB16.b (hB15.b (hB14.b b12_0))
 have b16_2 := hB16.b (hB15.b (hB14.b b12_2))
 have q39' := (q38'.below hB16.below)
 obtain ⟨r16_32, br16_32⟩ := hB16.is 32
 have lr16_32 := hB16.lr 32 br16_32
 have k16_62 := kt hg16 62 (hB16.is 0)
 have k16_94 := kt hg16 94 r16_32
 obtain ⟨ga17, ca17, W17, ra17, ow17, ot17, z17, gg17, fB17⟩ := growN_tail 62 62 65 3 24 _ (by kernel_rfl) infoO rfl (orC (rollO vv) 3) 3 (off := 0) (k := 1) (c' := 1) [.int .i64 (150 + (2 * (vv 5))), .int .i64 ((vv 6) / 16 % 4), .int .i64 ((((vv 6) / 16 % 4) + 1) + ((vv 7) % 8))] fB16 q39' rfl rfl rfl rfl (cells_at br16_32) (by omega)
 refine tail_value2 (o := _) rfl rfl rfl (run_appendOp (fr_ev k16_62) (fr_ev k16_94) ra17) ?_
 have b17_0 := ot17 _ _ (ownN_ne q39' b16_0 (by decide)) b16_0
 have b17_2 := ot17 _ _ (ownN_ne q39' b16_2 (by decide)) b16_2
 have on17 : OwnN 65 3 w.heap.size 3 (orC (rollO vv) 3) (some ⟨ga17, 0, none⟩) ca17 W17 := .inr ⟨_, rfl, ow17⟩
 generalize hg17 : upd g16 95 (.slice (some ⟨ga17, 0, none⟩) 3 ca17) = g17
 have k17_95 := kt hg17 95 (upd_same _ _ _)
 refine tail_value (o := _) rfl rfl rfl (v := .slice (some ⟨ga17, 0, none⟩) 3 ca17) (by simp [go_sem, frv 426 k17_95]) ?_
 generalize hg18 : upd g17 8 (.slice (some ⟨ga17, 0, none⟩) 3 ca17) = g18
 have k18_9 := ku hg18 9 (ku hg17 9 (kt hg16 9 k15_9))
 refine wpe ?_
 refine ibn ?_
 refine hK16 _ _ ?_
 refine ry 3 [(60, 0), (61, 1), (9, 2)] [[], [0], [0, 1]] (rel [iI 2, iI 3, iI 3])
  ⟨fun f s W hW l m p r a => opm (a.v 9 ((p 2 9 rfl rfl).trans k18_9)),
  fun f s W hW l m p r a => opv rfl rfl (by simp [go_sem, a.e 60 (l 0 rfl), IntWalk.i64_in (3) (by omega)]) rfl,
  fun f s W hW l m p r a => opm (a.v 61 (l 1 rfl)), trivial⟩ ?_
 intro f19 s19 W19 hB19 g19 hg19 z19
 have q40' := (on17.below hB19.below)
 refine wpe ?_
 have k19_9 := kt hg19 9 (hB19.is 2)
 refine then_normal ?_
 rw [rounds_succ]
 refine wp_seq_k fun K17 hK17 => ?_
 refine rw_ 2 [(58, 0), (59, 1)] [[], [0]] (rel [iI 3, iB false])
  ⟨fun f s W hW l m p r a => opm (a.v 9 k19_9),
  fun f s W hW l m p r a => opv rfl rfl (by simp [go_sem, a.e 58 (l 0 rfl)]) rfl, trivial⟩ ?_
 intro f20 s20 W20 hB20 g20 hg20 z20
 have fB20 := hB20.f (hB19.f fB17)
 have b20_2 := hB20.b (hB19.b b17_2)
 have q41' := (q40'.below hB20.below)
 have k20_7 := kt hg20 7 (kt hg19 7 (ku hg18 7 (ku hg17 7 (kt hg16 7 (kt hg15 7 (kt hg14 7 (ku hg13 7 (ku hg12 7 (kt hg11 7 (kt hg10 7 (kt hg9 7 (ku hg8 7 (ku hg7 7 (kt hg6 7 (kt hg5 7 (kt hg4 7 (ku hg3 7 (kt hg2 7 r2_18))))))))))))))))))
 have k20_8 := kt hg20 8 (kt hg19 8 (kt hg18 8 (upd_same _ _ _)))
 have k20_59 := kt hg20 59 (hB20.is 1)
 refine wp_cond_false ((fr_eval rfl).trans k20_59) ?_
 refine wp_exit ?_
 refine then_exit ?_
 refine then_exit ?_
 refine inBlock_at ?_
 refine hK3 _ _ ?_
 refine wp_seq_k fun K20 hK20 => ?_
 rcases hq : planF (seN (rollP vv) (rollO vv) (patL (rollP vv) (rollO vv) 3 3 [])) 4 0 with _ | q
 ·
  refine rz 10 [(97, 0), (98, 1), (99, 2), (100, 3), (101, 4), (96, 5), (102, 6), (103, 7), (10, 8), (11, 9)] [[], [], [], [1, 2], [0, 3], [4], [5], [5], [6], [7]] (rel [is (.agg #[.int .i64 (500 + (4 * (vv 0))), .int .i64 0, .int .i64 (40 + (3 * (vv 1))), .int .i64 (2 + ((vv 2) % 3))]), row 1 0 #[] 65, is (.slice (some ⟨ga17, 0, none⟩) 3 ca17), ab fun v W => IsOrd 3 (rollO vv) v W, is (.tuple #[.slice none 0 0, .int .i64 9]), is (.tuple #[.slice none 0 0, .int .i64 9]), is (.slice none 0 0), iI 9, is (.slice none 0 0), iI 9])
   ⟨is_k, row_k, is_k, ab_k fun v W W' hb h => (h.below hb), is_k, is_k, is_k, is_k, is_k, is_k, trivial⟩
   ⟨fun f s W hW l m p r a => opv rfl rfl (by simp [go_sem, a.e 7 k20_7, cl (bwb b20_2 hW) 0, cl (bwb b20_2 hW) 1, cl (bwb b20_2 hW) 2, cl (bwb b20_2 hW) 3]) rfl,
  fun f s W hW l m p r a => opr rfl rfl (by simp [go_sem]),
  fun f s W hW l m p r a => opm (a.v 8 k20_8),
  fun f s W hW l m p r a => by have u := bwt fB20 hW; obtain ⟨v_, W_, r_, b_, i_⟩ := cloneO3 62 (ownR_ordC (OwnN.row ((q41'.below hW)))) (by decide) (by decide); exact opDo_value rfl rfl (run_appendOp (a.v 98 (l 1 rfl).1) (a.v 99 (l 2 rfl)) r_) b_ i_,
  fun f s W hW l m p r a => by obtain ⟨g42', c43', d3, q44'⟩ := (l 3 rfl); exact opc rfl rfl (by simp [go_sem, a.e 97 (l 0 rfl), a.e 100 d3]) (tr_Plan_none ⟨500 + 4 * vv 0, 0, 40 + 3 * vv 1, 2 + vv 2 % 3⟩ (rollO vv) g42' 0 c43' W q44' (rollP_in gv_) (rollO_in gv_) hq),
  fun f s W hW l m p r a => opm (a.v 101 (l 4 rfl)),
  fun f s W hW l m p r a => opv rfl rfl (by simp [go_sem, a.e 96 (l 5 rfl)]) rfl,
  fun f s W hW l m p r a => opv rfl rfl (by simp [go_sem, a.e 96 (l 5 rfl)]) rfl,
  fun f s W hW l m p r a => opm (a.v 102 (l 6 rfl)),
  fun f s W hW l m p r a => opm (a.v 103 (l 7 rfl)), trivial⟩ ?_
  intro f21 s21 W21 hB21 g21 hg21 z21
  have q45' := (q41'.below hB21.below)
  obtain ⟨r21_1, br21_1⟩ := hB21.is 1
  have lr21_1 := hB21.lr 1 br21_1
  refine hK20 _ _ ?_
  have k21_11 := kt hg21 11 (hB21.is 9)
  refine wp_seq_k fun K21 hK21 => ?_
  refine rw_ 2 [(104, 0), (105, 1)] [[], [0]] (rel [iI 9, iB true])
   ⟨fun f s W hW l m p r a => opm (a.v 11 k21_11),
  fun f s W hW l m p r a => opv rfl rfl (by simp [go_sem, a.e 104 (l 0 rfl)]) rfl, trivial⟩ ?_
  intro f22 s22 W22 hB22 g22 hg22 z22
  have q46' := (q45'.below hB22.below)
  have k22_11 := kt hg22 11 k21_11
  have k22_105 := kt hg22 105 (hB22.is 1)
  refine wp_cond_true ((fr_eval rfl).trans k22_105) ?_
  refine rw_ 9 [(106, 0), (107, 1), (108, 2), (109, 3), (110, 4), (111, 5), (112, 6), (113, 7), (6, 8)] [[], [0], [1], [2], [2, 3], [4], [5], [5, 6], [7]] (rel [iI 9, iB true, iB true, iB true, iB true, iB true, iB true, iB true, iB true])
   ⟨fun f s W hW l m p r a => opm (a.v 11 k22_11),
  fun f s W hW l m p r a => opv rfl rfl (by simp [go_sem, a.e 106 (l 0 rfl)]) rfl,
  fun f s W hW l m p r a => opm (a.v 107 (l 1 rfl)),
  fun f s W hW l m p r a => osure rfl rfl (a.says (d := 108) rfl rfl (l 2 rfl)) (gc (by simp [go_sem]) (armTrim_yes W)),
  fun f s W hW l m p r a => opk (c := true) rfl rfl (fun h => absurd h (by decide)) (fun _ => by simp [go_sem, a.e 108 (l 2 rfl), a.e 109 (l 3 rfl)]),
  fun f s W hW l m p r a => opm (a.v 110 (l 4 rfl)),
  fun f s W hW l m p r a => osure rfl rfl (a.says (d := 111) rfl rfl (l 5 rfl)) (gc (by simp [go_sem]) (armRoll_yes W)),
  fun f s W hW l m p r a => opk (c := true) rfl rfl (fun h => absurd h (by decide)) (fun _ => by simp [go_sem, a.e 111 (l 5 rfl), a.e 112 (l 6 rfl)]),
  fun f s W hW l m p r a => opm (a.v 113 (l 7 rfl)), trivial⟩ ?_
  intro f23 s23 W23 hB23 g23 hg23 z23
  have fB23 := hB23.f (hB22.f (hB21.f fB20))
  have q47' := (q46'.below hB23.below)
  have k23_6 := kt hg23 6 (hB23.is 8)
  refine wp_ret ?_
  refine then_ret ?_
  refine leave_one (N := 426) (.inr rfl) Try.results4 rfl k23_6 ?_
  exact ⟨rfl, fB23⟩
 ·
  obtain ⟨-, hgt_, hwr⟩ := plan_sound (rollP_in gv_) (rollO_in gv_) hq
  have hplan : ∀ (W : World) (g c : Nat), OrdR W g 0 3 (rollO vv) → Calls Try.prog 12 #[.agg #[.int .i64 (500 + 4 * vv 0), .int .i64 0, .int .i64 (40 + 3 * vv 1), .int .i64 (2 + vv 2 % 3)], .slice (some ⟨g, 0, none⟩) 3 c] W (fun e w' => ∃ v, e = .returned (.tuple #[v, .int .i64 0]) ∧ IsPlan q.best.length (plX (patL (rollP vv) (rollO vv) 3 3 []) q.best) v w' ∧ Below W.heap.size W w') := fun W g c hO => tr_Plan (rollP vv) (rollO vv) g 0 c q W hO (rollP_in gv_) (rollO_in gv_) hq
  obtain ⟨n, hn_⟩ : ∃ n, q.best.length = n := ⟨_, rfl⟩
  obtain ⟨ys, hy_⟩ : ∃ y, (plX (patL (rollP vv) (rollO vv) 3 3 []) q.best) = y := ⟨_, rfl⟩
  rw [hn_, hy_] at hgt_ hwr hplan
  refine rz 10 [(97, 0), (98, 1), (99, 2), (100, 3), (101, 4), (96, 5), (102, 6), (103, 7), (10, 8), (11, 9)] [[], [], [], [1, 2], [0, 1, 2, 3], [0, 1, 2, 3, 4], [0, 1, 2, 3, 4, 5], [0, 1, 2, 3, 4, 5], [0, 1, 2, 3, 4, 5, 6], [0, 1, 2, 3, 4, 5, 6, 7, 8]] (rel [is (.agg #[.int .i64 (500 + (4 * (vv 0))), .int .i64 0, .int .i64 (40 + (3 * (vv 1))), .int .i64 (2 + ((vv 2) % 3))]),
   row 1 0 #[] 65,
   is (.slice (some ⟨ga17, 0, none⟩) 3 ca17),
   ab fun v W => IsOrd 3 (rollO vv) v W,
   ab fun v W => ∃ x0, v = .tuple #[x0, .int .i64 0] ∧ IsPlan (n) (ys) x0 W,
   ab fun v W => ∃ x0, v = .tuple #[x0, .int .i64 0] ∧ IsPlan (n) (ys) x0 W,
   ab fun v W => IsPlan (n) (ys) v W,
   is (.int .i64 0),
   ab fun v W => IsPlan (n) (ys) v W,
   is (.int .i64 0)])
   ⟨is_k, row_k, is_k, ab_k fun v W W' hb h => (h.below hb), ab_k fun v W W' hb ⟨x0, e, h0⟩ => ⟨x0, e, (h0.below hb)⟩, ab_k fun v W W' hb ⟨x0, e, h0⟩ => ⟨x0, e, (h0.below hb)⟩, ab_k fun v W W' hb h => (h.below hb), is_k, ab_k fun v W W' hb h => (h.below hb), is_k, trivial⟩
   ⟨fun f s W hW l m p r a => opv rfl rfl (by simp [go_sem, a.e 7 k20_7, cl (bwb b20_2 hW) 0, cl (bwb b20_2 hW) 1, cl (bwb b20_2 hW) 2, cl (bwb b20_2 hW) 3]) rfl,
  fun f s W hW l m p r a => opr rfl rfl (by simp [go_sem]),
  fun f s W hW l m p r a => opv rfl rfl (by simp [go_sem, a.e 8 k20_8]) rfl,
  fun f s W hW l m p r a => by have u := bwt fB20 hW; obtain ⟨v_, W_, r_, b_, i_⟩ := cloneO3 62 (ownR_ordC (OwnN.row ((q41'.below hW)))) (by decide) (by decide); exact opDo_value rfl rfl (run_appendOp (a.v 98 (l 1 rfl).1) (a.v 99 (l 2 rfl)) r_) b_ i_,
  fun f s W hW l m p r a => by obtain ⟨g48', c49', d3, q50'⟩ := (l 3 rfl); exact opd rfl rfl (by simp [go_sem, a.e 97 (l 0 rfl), a.e 100 d3]) (hplan W g48' c49' q50') ((fun e W' h => by obtain ⟨v, e1, h1, h2⟩ := h; exact ⟨_, e1, h2, ⟨v, rfl, h1⟩⟩)),
  fun f s W hW l m p r a => opv (v := (f 4)) rfl rfl (by simp [go_sem, (a.at' 101 rfl : r.tmps[101]?.getD undef = f 4)] <;> rfl) (l 4 rfl),
  fun f s W hW l m p r a => by obtain ⟨x5_0, d5, p5_0⟩ := (l 5 rfl); exact opv (v := x5_0) rfl rfl (by simp [go_sem, a.e 96 d5]) p5_0,
  fun f s W hW l m p r a => by obtain ⟨x5_0, d5, p5_0⟩ := (l 5 rfl); exact opv rfl rfl (by simp [go_sem, a.e 96 d5]) rfl,
  fun f s W hW l m p r a => opv (v := (f 6)) rfl rfl (by simp [go_sem, (a.at' 102 rfl : r.tmps[102]?.getD undef = f 6)] <;> rfl) (l 6 rfl),
  fun f s W hW l m p r a => opv rfl rfl (by simp [go_sem, a.e 103 (l 7 rfl)]) rfl, trivial⟩ ?_
  intro f24 s24 W24 hB24 g24 hg24 z24
  have q60' := (q41'.below hB24.below)
  obtain ⟨r24_1, br24_1⟩ := hB24.is 1
  have lr24_1 := hB24.lr 1 br24_1
  obtain ⟨a61', c62', b63', o64', ad65', cp66', r24_8, q69', q68', q67'⟩ := hB24.is 8
  refine hK20 _ _ ?_
  have k24_11 := kt hg24 11 (hB24.is 9)
  refine wp_seq_k fun K25 hK25 => ?_
  refine rw_ 2 [(104, 0), (105, 1)] [[], [0]] (rel [iI 0, iB false])
   ⟨fun f s W hW l m p r a => opm (a.v 11 k24_11),
  fun f s W hW l m p r a => opv rfl rfl (by simp [go_sem, a.e 104 (l 0 rfl)]) rfl, trivial⟩ ?_
  intro f25 s25 W25 hB25 g25 hg25 z25
  have fB25 := hB25.f (hB24.f fB20)
  have b25_2 := hB25.b (hB24.b b20_2)
  have q70' := (q60'.below hB25.below)
  have q71' := (q67'.below hB25.below)
  have q72' := q68'
  have q73' := q69'
  have k25_7 := kt hg25 7 (kt hg24 7 k20_7)
  have k25_8 := kt hg25 8 (kt hg24 8 k20_8)
  have k25_10 := kt hg25 10 (kt hg24 10 r24_8)
  have k25_105 := kt hg25 105 (hB25.is 1)
  refine wp_cond_false ((fr_eval rfl).trans k25_105) ?_
  refine wp_skip ?_
  refine hK25 _ _ ?_
  refine rx 15 [(115, 0), (116, 1), (117, 2), (118, 3), (119, 4), (120, 5), (114, 6), (121, 7), (122, 8), (123, 9), (124, 10), (12, 11), (13, 12), (14, 13), (15, 14)] [[], [], [], [1, 2], [], [0, 1, 2, 3, 4], [0, 1, 2, 3, 4, 5], [0, 1, 2, 3, 4, 5, 6], [0, 1, 2, 3, 4, 5, 6], [0, 1, 2, 3, 4, 5, 6], [0, 1, 2, 3, 4, 5, 6], [0, 1, 2, 3, 4, 5, 6, 7], [0, 1, 2, 3, 4, 5, 6, 7, 8, 11], [0, 1, 2, 3, 4, 5, 6, 7, 8, 9, 11, 12], [0, 1, 2, 3, 4, 5, 6, 7, 8, 9, 10, 11, 12, 13]] (rel [is (.agg #[.int .i64 (500 + (4 * (vv 0))), .int .i64 0, .int .i64 (40 + (3 * (vv 1))), .int .i64 (2 + ((vv 2) % 3))]),
   row 1 0 #[] 65,
   is (.slice (some ⟨ga17, 0, none⟩) 3 ca17),
   ab fun v W => IsOrd 3 (rollO vv) v W,
   is (.slice a61' n c62'),
   ab fun v W => ∃ x0, v = .tuple #[x0, .int .i64 ((wasK (rollP vv) (rollO vv) ys n)), .int .i64 0, .int .i64 0] ∧ IsG (gotK ys n) x0 W,
   ab fun v W => ∃ x0, v = .tuple #[x0, .int .i64 ((wasK (rollP vv) (rollO vv) ys n)), .int .i64 0, .int .i64 0] ∧ IsG (gotK ys n) x0 W,
   ab fun v W => IsG (gotK ys n) v W,
   is (.int .i64 ((wasK (rollP vv) (rollO vv) ys n))),
   is (.int .i64 0),
   is (.int .i64 0),
   ab fun v W => IsG (gotK ys n) v W,
   is (.int .i64 ((wasK (rollP vv) (rollO vv) ys n))),
   is (.int .i64 0),
   is (.int .i64 0)])
   ⟨is_k, row_k, is_k, ab_k fun v W W' hb h => (h.below hb), is_k, ab_k fun v W W' hb ⟨x0, e, h0⟩ => ⟨x0, e, (h0.below hb)⟩, ab_k fun v W W' hb ⟨x0, e, h0⟩ => ⟨x0, e, (h0.below hb)⟩, ab_k fun v W W' hb h => (h.below hb), is_k, is_k, is_k, ab_k fun v W W' hb h => (h.below hb), is_k, is_k, is_k, trivial⟩
   ⟨fun f s W hW l m p r a => opv rfl rfl (by simp [go_sem, a.e 7 k25_7, cl (bwb b25_2 hW) 0, cl (bwb b25_2 hW) 1, cl (bwb b25_2 hW) 2, cl (bwb b25_2 hW) 3]) rfl,
  fun f s W hW l m p r a => opr rfl rfl (by simp [go_sem]),
  fun f s W hW l m p r a => opv rfl rfl (by simp [go_sem, a.e 8 k25_8]) rfl,
  fun f s W hW l m p r a => by have u := bwt fB25 hW; obtain ⟨v_, W_, r_, b_, i_⟩ := cloneO3 62 (ownR_ordC (OwnN.row ((q70'.below hW)))) (by decide) (by decide); exact opDo_value rfl rfl (run_appendOp (a.v 116 (l 1 rfl).1) (a.v 117 (l 2 rfl)) r_) b_ i_,
  fun f s W hW l m p r a => opv rfl rfl (by simp [go_sem, a.e 10 k25_10]) rfl,
  fun f s W hW l m p r a => by obtain ⟨g74', c75', d3, q76'⟩ := (l 3 rfl); exact opd (args := #[.agg #[.int .i64 (500 + (4 * (vv 0))), .int .i64 0, .int .i64 (40 + (3 * (vv 1))), .int .i64 (2 + ((vv 2) % 3))], .slice (some ⟨g74', 0, none⟩) 3 c75', .slice a61' n c62']) rfl rfl (by simp [go_sem, a.e 115 (l 0 rfl), a.e 118 d3, a.e 119 (l 4 rfl)]) (tr_Get ⟨500 + 4 * vv 0, 0, 40 + 3 * vv 1, 2 + vv 2 % 3⟩ (rollO vv) g74' 0 c75' n c62' b63' o64' a61' ys ad65' cp66' W q76' (rollP_in gv_) (rollO_in gv_) (q72') ((q71'.below hW)) hgt_ hwr) ((fun e W' h => by obtain ⟨v, e1, h1, h2⟩ := h; exact ⟨_, e1, h2, ⟨v, rfl, h1⟩⟩)),
  fun f s W hW l m p r a => opv (v := (f 5)) rfl rfl (by simp [go_sem, (a.at' 120 rfl : r.tmps[120]?.getD undef = f 5)] <;> rfl) (l 5 rfl),
  fun f s W hW l m p r a => by obtain ⟨x6_0, d6, p6_0⟩ := (l 6 rfl); exact opv (v := x6_0) rfl rfl (by simp [go_sem, a.e 114 d6]) p6_0,
  fun f s W hW l m p r a => by obtain ⟨x6_0, d6, p6_0⟩ := (l 6 rfl); exact opv rfl rfl (by simp [go_sem, a.e 114 d6]) rfl,
  fun f s W hW l m p r a => by obtain ⟨x6_0, d6, p6_0⟩ := (l 6 rfl); exact opv rfl rfl (by simp [go_sem, a.e 114 d6]) rfl,
  fun f s W hW l m p r a => by obtain ⟨x6_0, d6, p6_0⟩ := (l 6 rfl); exact opv rfl rfl (by simp [go_sem, a.e 114 d6]) rfl,
  fun f s W hW l m p r a => opv (v := (f 7)) rfl rfl (by simp [go_sem, (a.at' 121 rfl : r.tmps[121]?.getD undef = f 7)] <;> rfl) (l 7 rfl),
  fun f s W hW l m p r a => opv rfl rfl (by simp [go_sem, a.e 122 (l 8 rfl)]) rfl,
  fun f s W hW l m p r a => opv rfl rfl (by simp [go_sem, a.e 123 (l 9 rfl)]) rfl,
  fun f s W hW l m p r a => opv rfl rfl (by simp [go_sem, a.e 124 (l 10 rfl)]) rfl, trivial⟩ ?_
  intro f26 s26 W26 hB26 g26 hg26 z26
  have fB26 := hB26.f fB25
  have b26_0 := hB26.b (hB25.b (hB24.b (hB20.b (hB19.b b17_0))))
  have q81' := (q70'.below hB26.below)
  have q82' := (q71'.below hB26.below)
  have q83' := q72'
  have q84' := q73'
  obtain ⟨r26_1, br26_1⟩ := hB26.is 1
  have lr26_1 := hB26.lr 1 br26_1
  obtain ⟨g85', c86', r26_11, q87', q88'⟩ := hB26.is 11
  have k26_2 := kt hg26 2 (kt hg25 2 (kt hg24 2 (kt hg20 2 (kt hg19 2 (ku hg18 2 (ku hg17 2 (kt hg16 2 (kt hg15 2 (kt hg14 2 (ku hg13 2 (ku hg12 2 (kt hg11 2 (kt hg10 2 (kt hg9 2 (ku hg8 2 (ku hg7 2 (kt hg6 2 (kt hg5 2 (kt hg4 2 (ku hg3 2 (kt hg2 2 (kt hg1 2 k2))))))))))))))))))))))
  have k26_3 := kt hg26 3 (kt hg25 3 (kt hg24 3 (kt hg20 3 (kt hg19 3 (ku hg18 3 (ku hg17 3 (kt hg16 3 (kt hg15 3 (kt hg14 3 (ku hg13 3 (ku hg12 3 (kt hg11 3 (kt hg10 3 (kt hg9 3 (ku hg8 3 (ku hg7 3 (kt hg6 3 (kt hg5 3 (kt hg4 3 (ku hg3 3 (kt hg2 3 (kt hg1 3 r1_0))))))))))))))))))))))
  have k26_10 := kt hg26 10 k25_10
  have k26_12 := kt hg26 12 r26_11
  have k26_15 := kt hg26 15 (hB26.is 14)
  exact rolls_b tb ap ta np cp nb cb pv bs (rollP vv) (rollO vv) n ys ht hp hgt_ w W26 fB26 (hR.below fB26) (hT.below fB26) (s1 0) a61' b63' o64' c62' ad65' cp66' g85' c86' b26_0 q83' q82' q87' g26 k26_2 k26_3 k26_10 k26_12 k26_15
end Go.Proofs.Ytcgccflcjejlhaa
