/- Part of the proof: what the claim leans on. -/
import Derived.Test.YthnediamopehfaaGreatZBLS7
set_option linter.unusedSimpArgs false
set_option linter.unusedVariables false
namespace Go.Proofs.YthnediamopehfaaGreat
open Go.RowKit
theorem blank_zero {vi : Wi} {lo hi tab : Int} {B : Bl} {c er : Int} (hB : blankOf vi lo hi tab = (B, c, er)) (he : er ≠ 0) : B = ⟨0, [], 0, [], [], 0, false⟩ := by
  unfold blankOf at hB
  simp only at hB
  split at hB
  · exact (Prod.mk.inj hB).1.symm
  · split at hB
    · exact (Prod.mk.inj hB).1.symm
    · split at hB
      · exact (Prod.mk.inj hB).1.symm
      · split at hB
        · exact (Prod.mk.inj hB).1.symm
        · split at hB
          · exact (Prod.mk.inj hB).1.symm
          · exact absurd (Prod.mk.inj (Prod.mk.inj hB).2).2.symm he
set_option maxRecDepth 100000 in
set_option maxHeartbeats 4000000 in
theorem blanks_bad1 (l1 h1' l2 h2' l3 h3' l4 h4' l5 h5' : Int) (wo : Bool) (lo hi tab : Int) (w : World) (E : Int) (hE : wishErr ⟨(l1, h1'), (l2, h2'), (l3, h3'), (l4, h4'), (l5, h5'), wo⟩ = E) (hn : (E != 0) = true) (hee : (E == E) = true) (hA : blankAll ⟨(l1, h1'), (l2, h2'), (l3, h3'), (l4, h4'), (l5, h5'), wo⟩ lo hi tab = (⟨0, [], 0, [], [], 0, false⟩, 0, E)) (hne : (E : Int) ≠ 0) :
  Calls Tryz.prog 5 #[.agg #[.int .i64 l1, .int .i64 (h1'), .int .i64 l2, .int .i64 (h2'), .int .i64 l3, .int .i64 (h3'), .int .i64 l4, .int .i64 (h4'), .int .i64 l5, .int .i64 (h5'), .bool wo], .agg #[.int .i64 lo, .int .i64 hi], .int .i64 tab] w (fun e w' => e = .returned (.bool true) ∧ Below w.heap.size w w') := by
 have hn0 : (E == 0) = false := beq_eq_false_iff_ne.2 (bne_iff_ne.1 hn)
 refine calls_fr Tryz.func5 Tryz.ntmps5 rfl rfl fun g hg => ?_
 have k0 : g 0 = .agg #[.int .i64 l1, .int .i64 (h1'), .int .i64 l2, .int .i64 (h2'), .int .i64 l3, .int .i64 (h3'), .int .i64 l4, .int .i64 (h4'), .int .i64 l5, .int .i64 (h5'), .bool wo] := hg 0
 have k1 : g 1 = .agg #[.int .i64 lo, .int .i64 hi] := hg 1
 have k2 : g 2 = .int .i64 tab := hg 2
 clear hg
 have fB0 : Below w.heap.size w w := Below.refl _ _
 refine wp_seq_k fun K1 hK1 => ?_
 refine region_dk 3 [(3, 0), (4, 1), (6, 2)] [[], [], []] (rel [bx 0 #[.int .i64 l1, .int .i64 (h1'), .int .i64 l2, .int .i64 (h2'), .int .i64 l3, .int .i64 (h3'), .int .i64 l4, .int .i64 (h4'), .int .i64 l5, .int .i64 (h5'), .bool wo] 43,
   bx 1 #[.int .i64 lo, .int .i64 hi] 26,
   is (.bool false)])
  ⟨bx_k, bx_k, is_k, trivial⟩
  ⟨fun f s W i j k l m a => opb rfl rfl (by simp [go_sem, a.e 0 k0]),
  fun f s W i j k l m a => opb rfl rfl (by simp [go_sem, a.e 1 k1]),
  fun f s W i j k l m a => opv rfl rfl (by simp [go_sem]) rfl, trivial⟩ ?_
 intro f1 s1 W1 hB1 g1 hg1
 have fB1 := hB1.f fB0
 have z1 := hB1.below.size
 obtain ⟨r1_0, br1_0⟩ := hB1.is 0
 have lr1_0 := hB1.lr 0 br1_0
 obtain ⟨r1_1, br1_1⟩ := hB1.is 1
 have lr1_1 := hB1.lr 1 br1_1
 have ne1_0_1 := hB1.nb 0 1
 refine hK1 _ _ ?_
 have k1_2 := kt hg1 2 k2
 have k1_3 := kt hg1 3 r1_0
 have k1_4 := kt hg1 4 r1_1
 have k1_6 := kt hg1 6 (hB1.is 2)
 refine wp_seq_k fun K2 hK2 => ?_
 refine region_dk 3 [(13, 0), (14, 1), (7, 2)] [[], [0], [0, 1]] (rel [is (.agg #[.int .i64 l1, .int .i64 (h1'), .int .i64 l2, .int .i64 (h2'), .int .i64 l3, .int .i64 (h3'), .int .i64 l4, .int .i64 (h4'), .int .i64 l5, .int .i64 (h5'), .bool wo]),
   is (.int .i64 E),
   is (.int .i64 E)])
  ⟨is_k, is_k, is_k, trivial⟩
  ⟨fun f s W i j k l m a => opv rfl rfl (by simp [go_sem, a.e 3 k1_3, cb br1_0 i 0, cb br1_0 i 1, cb br1_0 i 2, cb br1_0 i 3, cb br1_0 i 4, cb br1_0 i 5, cb br1_0 i 6, cb br1_0 i 7, cb br1_0 i 8, cb br1_0 i 9, cb br1_0 i 10]) rfl,
  fun f s W i j k l m a => opDo_call rfl rfl (by simp [go_sem, a.e 13 (j 0 rfl)]) (wishR_any l1 h1' l2 h2' l3 h3' l4 h4' l5 h5' wo W) ((fun e W' h => by have h1 := h.1; rw [wishR_eq, hE] at h1; exact ⟨_, h1, h.2, rfl⟩)),
  fun f s W i j k l m a => opv rfl rfl (by simp [go_sem, a.e 14 (j 1 rfl)]) rfl, trivial⟩ ?_
 intro f2 s2 W2 hB2 g2 hg2
 have fB2 := hB2.f fB1
 have z2 := hB2.below.size
 have b2_0 := hB2.b br1_0
 have b2_1 := hB2.b br1_1
 refine hK2 _ _ ?_
 have k2_2 := kt hg2 2 k1_2
 have k2_3 := kt hg2 3 k1_3
 have k2_4 := kt hg2 4 k1_4
 have k2_6 := kt hg2 6 k1_6
 have k2_7 := kt hg2 7 (hB2.is 2)
 refine wp_seq_k fun K3 hK3 => ?_
 refine wp_seq_k fun K4 hK4 => ?_
 refine region_dk 7 [(15, 0), (16, 1), (17, 2), (18, 3), (19, 4), (20, 5), (21, 6)] [[], [0], [0, 1], [0, 1, 2], [0, 1, 2, 3], [0, 1, 2, 3, 4], [0, 1, 2, 3, 4, 5]] (rel [is (.int .i64 E),
   is (.bool false),
   is (.bool false),
   gd (false) true (fun _ _ _ => True),
   gd (false) true (fun _ _ _ => True),
   gd (false) true (fun _ _ _ => True),
   is (.bool false)])
  ⟨is_k, is_k, is_k, gdt_k, gdt_k, gdt_k, is_k, trivial⟩
  ⟨fun f s W i j k l m a => opv rfl rfl (by simp [go_sem, a.e 7 k2_7]) rfl,
  fun f s W i j k l m a => opv rfl rfl (by simp [go_sem, a.e 15 (j 0 rfl), hn0]) rfl,
  fun f s W i j k l m a => opv rfl rfl (by simp [go_sem, a.e 16 (j 1 rfl)]) rfl,
  fun f s W i j k l m a => gno (a.says (d := 17) rfl rfl (j 2 rfl)),
  fun f s W i j k l m a => gno (a.says (d := 17) rfl rfl (j 2 rfl)),
  fun f s W i j k l m a => gno (a.says (d := 17) rfl rfl (j 2 rfl)),
  fun f s W i j k l m a => opk (c := false) rfl rfl (fun _ => by simp [go_sem, a.e 17 (j 2 rfl)]) (fun h => absurd h (by decide)), trivial⟩ ?_
 intro f3 s3 W3 hB3 g3 hg3
 have fB3 := hB3.f fB2
 have z3 := hB3.below.size
 have b3_0 := hB3.b b2_0
 have b3_1 := hB3.b b2_1
 refine hK4 _ _ ?_
 have k3_2 := kt hg3 2 k2_2
 have k3_3 := kt hg3 3 k2_3
 have k3_4 := kt hg3 4 k2_4
 have k3_6 := kt hg3 6 k2_6
 have k3_7 := kt hg3 7 k2_7
 have k3_21 := kt hg3 21 (hB3.is 6)
 refine wp_cond_false ((fr_eval rfl).trans k3_21) ?_
 refine wp_skip ?_
 refine hK3 _ _ ?_
 refine wp_seq_k fun K6 hK6 => ?_
 refine wp_seq_k fun K7 hK7 => ?_
 refine region_dk 7 [(22, 0), (23, 1), (24, 2), (25, 3), (26, 4), (27, 5), (28, 6)] [[], [0], [0, 1], [0, 1, 2], [0, 1, 2, 3], [0, 1, 2, 3, 4], [0, 1, 2, 3, 4, 5]] (rel [is (.int .i64 E),
   is (.bool false),
   is (.bool false),
   gd (false) true (fun _ _ _ => True),
   gd (false) true (fun _ _ _ => True),
   gd (false) true (fun _ _ _ => True),
   is (.bool false)])
  ⟨is_k, is_k, is_k, gdt_k, gdt_k, gdt_k, is_k, trivial⟩
  ⟨fun f s W i j k l m a => opv rfl rfl (by simp [go_sem, a.e 7 k3_7]) rfl,
  fun f s W i j k l m a => opv rfl rfl (by simp [go_sem, a.e 22 (j 0 rfl), hn0]) rfl,
  fun f s W i j k l m a => opv rfl rfl (by simp [go_sem, a.e 23 (j 1 rfl)]) rfl,
  fun f s W i j k l m a => gno (a.says (d := 24) rfl rfl (j 2 rfl)),
  fun f s W i j k l m a => gno (a.says (d := 24) rfl rfl (j 2 rfl)),
  fun f s W i j k l m a => gno (a.says (d := 24) rfl rfl (j 2 rfl)),
  fun f s W i j k l m a => opk (c := false) rfl rfl (fun _ => by simp [go_sem, a.e 24 (j 2 rfl)]) (fun h => absurd h (by decide)), trivial⟩ ?_
 intro f4 s4 W4 hB4 g4 hg4
 have fB4 := hB4.f fB3
 have z4 := hB4.below.size
 have b4_0 := hB4.b b3_0
 have b4_1 := hB4.b b3_1
 refine hK7 _ _ ?_
 have k4_2 := kt hg4 2 k3_2
 have k4_3 := kt hg4 3 k3_3
 have k4_4 := kt hg4 4 k3_4
 have k4_6 := kt hg4 6 k3_6
 have k4_7 := kt hg4 7 k3_7
 have k4_28 := kt hg4 28 (hB4.is 6)
 refine wp_cond_false ((fr_eval rfl).trans k4_28) ?_
 refine wp_skip ?_
 refine hK6 _ _ ?_
 refine wp_seq_k fun K9 hK9 => ?_
 refine wp_seq_k fun K10 hK10 => ?_
 refine region_dk 10 [(29, 0), (30, 1), (31, 2), (32, 3), (33, 4), (34, 5), (35, 6), (36, 7), (37, 8), (38, 9)] [[], [0], [0, 1], [0, 1, 2], [0, 1, 2, 3], [0, 1, 2], [0, 1, 2, 5], [0, 1, 2, 3, 4, 5, 6], [0, 1, 2, 3, 4, 5, 6, 7], [0, 1, 2, 3, 4, 5, 6, 7, 8]] (rel [is (.int .i64 E),
   is (.bool false),
   is (.bool false),
   gd (false) true (fun _ _ _ => True),
   gd (false) true (fun _ _ _ => True),
   gd (false) true (fun _ _ _ => True),
   gd (false) true (fun _ _ _ => True),
   gd (false) true (fun _ _ _ => True),
   gd (false) true (fun _ _ _ => True),
   is (.bool false)])
  ⟨is_k, is_k, is_k, gdt_k, gdt_k, gdt_k, gdt_k, gdt_k, gdt_k, is_k, trivial⟩
  ⟨fun f s W i j k l m a => opv rfl rfl (by simp [go_sem, a.e 7 k4_7]) rfl,
  fun f s W i j k l m a => opv rfl rfl (by simp [go_sem, a.e 29 (j 0 rfl), hn0]) rfl,
  fun f s W i j k l m a => opv rfl rfl (by simp [go_sem, a.e 30 (j 1 rfl)]) rfl,
  fun f s W i j k l m a => gno (a.says (d := 31) rfl rfl (j 2 rfl)),
  fun f s W i j k l m a => gno (a.says (d := 31) rfl rfl (j 2 rfl)),
  fun f s W i j k l m a => gno (a.says (d := 31) rfl rfl (j 2 rfl)),
  fun f s W i j k l m a => gno (a.says (d := 31) rfl rfl (j 2 rfl)),
  fun f s W i j k l m a => gno (a.says (d := 31) rfl rfl (j 2 rfl)),
  fun f s W i j k l m a => gno (a.says (d := 31) rfl rfl (j 2 rfl)),
  fun f s W i j k l m a => opk (c := false) rfl rfl (fun _ => by simp [go_sem, a.e 31 (j 2 rfl)]) (fun h => absurd h (by decide)), trivial⟩ ?_
 intro f5 s5 W5 hB5 g5 hg5
 have fB5 := hB5.f fB4
 have z5 := hB5.below.size
 have b5_0 := hB5.b b4_0
 have b5_1 := hB5.b b4_1
 refine hK10 _ _ ?_
 have k5_2 := kt hg5 2 k4_2
 have k5_3 := kt hg5 3 k4_3
 have k5_4 := kt hg5 4 k4_4
 have k5_6 := kt hg5 6 k4_6
 have k5_7 := kt hg5 7 k4_7
 have k5_38 := kt hg5 38 (hB5.is 9)
 refine wp_cond_false ((fr_eval rfl).trans k5_38) ?_
 refine wp_skip ?_
 refine hK9 _ _ ?_
 refine wp_seq_k fun K12 hK12 => ?_
 refine region_dk 9 [(41, 0), (42, 1), (43, 2), (44, 3), (40, 4), (45, 5), (46, 6), (47, 7), (8, 8), (9, 10), (10, 11)] [[], [], [], [0, 1, 2], [0, 1, 2, 3], [0, 1, 2, 3, 4], [0, 1, 2, 3, 4], [0, 1, 2, 3, 4], [], [0, 1, 2, 3, 4, 5, 8], [0, 1, 2, 3, 4, 5, 6, 8, 9], [0, 1, 2, 3, 4, 5, 6, 7, 8, 9, 10]] (rel [is (.agg #[.int .i64 l1, .int .i64 (h1'), .int .i64 l2, .int .i64 (h2'), .int .i64 l3, .int .i64 (h3'), .int .i64 l4, .int .i64 (h4'), .int .i64 l5, .int .i64 (h5'), .bool wo]),
   is (.agg #[.int .i64 lo, .int .i64 hi]),
   is (.int .i64 tab),
   is (.tuple #[.agg #[.int .i64 0, .slice (none) (0) (0), .int .i64 0, .slice (none) (0) (0), .slice (none) (0) (0), .int .i64 0, .bool false], .int .i64 0, .int .i64 E]),
   is (.tuple #[.agg #[.int .i64 0, .slice (none) (0) (0), .int .i64 0, .slice (none) (0) (0), .slice (none) (0) (0), .int .i64 0, .bool false], .int .i64 0, .int .i64 E]),
   is (.agg #[.int .i64 0, .slice (none) (0) (0), .int .i64 0, .slice (none) (0) (0), .slice (none) (0) (0), .int .i64 0, .bool false]),
   is (.int .i64 0),
   is (.int .i64 E),
   bx 8 #[.int .i64 0, .slice (none) (0) (0), .int .i64 0, .slice (none) (0) (0), .slice (none) (0) (0), .int .i64 0, .bool false] 24])
  ⟨is_k, is_k, is_k, is_k, is_k, is_k, is_k, is_k, bx_k, trivial⟩
  ⟨fun f s W i j k l m a => opv rfl rfl (by simp [go_sem, a.e 3 k5_3, cb b5_0 i 0, cb b5_0 i 1, cb b5_0 i 2, cb b5_0 i 3, cb b5_0 i 4, cb b5_0 i 5, cb b5_0 i 6, cb b5_0 i 7, cb b5_0 i 8, cb b5_0 i 9, cb b5_0 i 10]) rfl,
  fun f s W i j k l m a => opv rfl rfl (by simp [go_sem, a.e 4 k5_4, cb b5_1 i 0, cb b5_1 i 1]) rfl,
  fun f s W i j k l m a => opv rfl rfl (by simp [go_sem, a.e 2 k5_2]) rfl,
  fun f s W i j k l m a => opDo_call rfl rfl (by simp [go_sem, a.e 41 (j 0 rfl), a.e 42 (j 1 rfl), a.e 43 (j 2 rfl)]) (blank_all l1 h1' l2 h2' l3 h3' l4 h4' l5 h5' wo lo hi tab W) ((fun e W' h => by rw [hA] at h; exact ⟨_, (h.2 hne).1, (h.2 hne).2, rfl⟩)),
  fun f s W i j k l m a => opv rfl rfl (by simp [go_sem, a.e 44 (j 3 rfl)]) rfl,
  fun f s W i j k l m a => opv rfl rfl (by simp [go_sem, a.e 40 (j 4 rfl)]) rfl,
  fun f s W i j k l m a => opv rfl rfl (by simp [go_sem, a.e 40 (j 4 rfl)]) rfl,
  fun f s W i j k l m a => opv rfl rfl (by simp [go_sem, a.e 40 (j 4 rfl)]) rfl,
  fun f s W i j k l m a => opb rfl rfl (by simp [go_sem]), trivial⟩ ?_
 intro f6 s6 W6 hB6 g6 hg6
 have fB6 := hB6.f fB5
 have z6 := hB6.below.size
 have b6_0 := hB6.b b5_0
 have b6_1 := hB6.b b5_1
 obtain ⟨r6_8, br6_8⟩ := hB6.is 8
 have lr6_8 := hB6.lr 8 br6_8
 have k6_2 := kt hg6 2 k5_2
 have k6_3 := kt hg6 3 k5_3
 have k6_4 := kt hg6 4 k5_4
 have k6_6 := kt hg6 6 k5_6
 have k6_7 := kt hg6 7 k5_7
 have k6_45 := kt hg6 45 (hB6.is 5)
 have k6_46 := kt hg6 46 (hB6.is 6)
 have k6_47 := kt hg6 47 (hB6.is 7)
 have k6_8 := kt hg6 8 r6_8
 obtain ⟨W7, hW7⟩ : ∃ W', W' = W6.setRow (s6 8) #[.int .i64 0, .slice (none) (0) (0), .int .i64 0, .slice (none) (0) (0), .slice (none) (0) (0), .int .i64 0, .bool false] := ⟨_, rfl⟩
 refine tail_skip (o := _) rfl ⟨rfl, rfl⟩ (run_seg hW7 (fr_ev k6_8) (fr_ev k6_45) br6_8 rfl rfl rfl rfl) ?_
 obtain ⟨fB7, nb7, ot7, z7⟩ := seg_facts hW7 fB6 br6_8 (by omega)
 clear hW7
 have b7_0 := ot7 _ _ (by omega) b6_0
 have b7_1 := ot7 _ _ (by omega) b6_1
 refine tail_value (o := _) rfl rfl rfl (v := .int .i64 0) (by simp [go_sem, frv 101 k6_46]) ?_
 generalize hg8 : upd g6 9 (.int .i64 0) = g8
 have k8_2 := ku hg8 2 k6_2
 have k8_3 := ku hg8 3 k6_3
 have k8_4 := ku hg8 4 k6_4
 have k8_6 := ku hg8 6 k6_6
 have k8_7 := ku hg8 7 k6_7
 have k8_47 := ku hg8 47 k6_47
 have k8_8 := ku hg8 8 k6_8
 have k8_9 := kt hg8 9 (upd_same _ _ _)
 refine tail_value (o := _) rfl rfl rfl (v := .int .i64 E) (by simp [go_sem, frv 101 k8_47]) ?_
 generalize hg9 : upd g8 10 (.int .i64 E) = g9
 have k9_2 := ku hg9 2 k8_2
 have k9_3 := ku hg9 3 k8_3
 have k9_4 := ku hg9 4 k8_4
 have k9_6 := ku hg9 6 k8_6
 have k9_7 := ku hg9 7 k8_7
 have k9_8 := ku hg9 8 k8_8
 have k9_9 := ku hg9 9 k8_9
 have k9_10 := kt hg9 10 (upd_same _ _ _)
 refine wpOps_end ?_
 refine hK12 _ _ ?_
 refine wp_seq_k fun K13 hK13 => ?_
 refine wp_seq_k fun K14 hK14 => ?_
 refine region_dk 2 [(48, 0), (49, 1)] [[], [0]] (rel [is (.int .i64 E),
   is (.bool true)])
  ⟨is_k, is_k, trivial⟩
  ⟨fun f s W i j k l m a => opv rfl rfl (by simp [go_sem, a.e 7 k9_7]) rfl,
  fun f s W i j k l m a => opv rfl rfl (by simp [go_sem, a.e 48 (j 0 rfl), hn]) rfl, trivial⟩ ?_
 intro f10 s10 W10 hB10 g10 hg10
 have fB10 := hB10.f fB7
 have z10 := hB10.below.size
 have b10_0 := hB10.b b7_0
 have b10_1 := hB10.b b7_1
 have b10_2 := hB10.b nb7
 refine hK14 _ _ ?_
 have k10_2 := kt hg10 2 k9_2
 have k10_3 := kt hg10 3 k9_3
 have k10_4 := kt hg10 4 k9_4
 have k10_6 := kt hg10 6 k9_6
 have k10_7 := kt hg10 7 k9_7
 have k10_8 := kt hg10 8 k9_8
 have k10_9 := kt hg10 9 k9_9
 have k10_10 := kt hg10 10 k9_10
 have k10_49 := kt hg10 49 (hB10.is 1)
 refine wp_cond_true ((fr_eval rfl).trans k10_49) ?_
 refine wp_seq_k fun K16 hK16 => ?_
 refine region_dk 15 [(50, 0), (51, 1), (52, 2), (53, 3), (54, 4), (55, 5), (56, 6), (57, 7), (58, 8), (59, 9), (60, 10), (61, 11), (62, 12), (63, 13), (6, 14)] [[], [], [0, 1], [0, 1, 2], [0, 1, 2, 3], [0, 1, 2, 3, 4], [0, 1, 2, 3, 4, 5], [0, 1, 2, 3, 4, 5, 6], [0, 1, 2, 3, 4, 5, 6, 7], [0, 1, 2, 3, 4, 5, 6, 7, 8], [0, 1, 2, 3, 4, 5, 6, 7, 8, 9], [0, 1, 2, 3, 4, 5, 6, 7, 8, 9, 10], [0, 1, 2, 3, 4, 5, 6, 7, 8, 9, 10, 11], [0, 1, 2, 3, 4, 5, 6, 7, 8, 9, 10, 11, 12], [0, 1, 2, 3, 4, 5, 6, 7, 8, 9, 10, 11, 12, 13]] (rel [is (.int .i64 E),
   is (.int .i64 E),
   is (.bool true),
   is (.bool true),
   is (.int .i64 0),
   is (.bool true),
   is (.bool true),
   is (.bool true),
   is (.agg #[.int .i64 0, .slice (none) (0) (0), .int .i64 0, .slice (none) (0) (0), .slice (none) (0) (0), .int .i64 0, .bool false]),
   is (.bool true),
   is (.bool true),
   is (.bool true),
   is (.bool true),
   is (.bool true),
   is (.bool true)])
  ⟨is_k, is_k, is_k, is_k, is_k, is_k, is_k, is_k, is_k, is_k, is_k, is_k, is_k, is_k, is_k, trivial⟩
  ⟨fun f s W i j k l m a => opv rfl rfl (by simp [go_sem, a.e 10 k10_10]) rfl,
  fun f s W i j k l m a => opv rfl rfl (by simp [go_sem, a.e 7 k10_7]) rfl,
  fun f s W i j k l m a => opv rfl rfl (by simp [go_sem, a.e 50 (j 0 rfl), a.e 51 (j 1 rfl), hee]) rfl,
  fun f s W i j k l m a => opv rfl rfl (by simp [go_sem, a.e 52 (j 2 rfl)]) rfl,
  fun f s W i j k l m a => osure rfl rfl (a.says (d := 53) rfl rfl (j 3 rfl)) (gv (by simp [go_sem, a.e 9 k10_9]) rfl),
  fun f s W i j k l m a => osure rfl rfl (a.says (d := 53) rfl rfl (j 3 rfl)) (gv (by simp [go_sem, a.e 54 (j 4 rfl)]) rfl),
  fun f s W i j k l m a => opk (c := true) rfl rfl (fun h => absurd h (by decide)) (fun _ => by simp [go_sem, a.e 53 (j 3 rfl), a.e 55 (j 5 rfl)]),
  fun f s W i j k l m a => opv rfl rfl (by simp [go_sem, a.e 56 (j 6 rfl)]) rfl,
  fun f s W i j k l m a => osure rfl rfl (a.says (d := 57) rfl rfl (j 7 rfl)) (gv (by simp [go_sem, a.e 8 k10_8, cb b10_2 i 0, cb b10_2 i 1, cb b10_2 i 2, cb b10_2 i 3, cb b10_2 i 4, cb b10_2 i 5, cb b10_2 i 6]) rfl),
  fun f s W i j k l m a => osure rfl rfl (a.says (d := 57) rfl rfl (j 7 rfl)) (gc (by simp [go_sem, a.e 58 (j 8 rfl)]) (none_zero W)),
  fun f s W i j k l m a => opk (c := true) rfl rfl (fun h => absurd h (by decide)) (fun _ => by simp [go_sem, a.e 57 (j 7 rfl), a.e 59 (j 9 rfl)]),
  fun f s W i j k l m a => opv rfl rfl (by simp [go_sem, a.e 60 (j 10 rfl)]) rfl,
  fun f s W i j k l m a => osure rfl rfl (a.says (d := 61) rfl rfl (j 11 rfl)) (gc (by simp [go_sem]) (known_any W)),
  fun f s W i j k l m a => opk (c := true) rfl rfl (fun h => absurd h (by decide)) (fun _ => by simp [go_sem, a.e 61 (j 11 rfl), a.e 62 (j 12 rfl)]),
  fun f s W i j k l m a => opv rfl rfl (by simp [go_sem, a.e 63 (j 13 rfl)]) rfl, trivial⟩ ?_
 intro f11 s11 W11 hB11 g11 hg11
 have fB11 := hB11.f fB10
 have z11 := hB11.below.size
 have b11_0 := hB11.b b10_0
 have b11_1 := hB11.b b10_1
 have b11_2 := hB11.b b10_2
 refine hK16 _ _ ?_
 have k11_2 := kt hg11 2 k10_2
 have k11_3 := kt hg11 3 k10_3
 have k11_4 := kt hg11 4 k10_4
 have k11_8 := kt hg11 8 k10_8
 have k11_9 := kt hg11 9 k10_9
 have k11_10 := kt hg11 10 k10_10
 have k11_6 := kt hg11 6 (hB11.is 14)
 refine wp_ret ?_
 refine then_ret ?_
 refine leave_one (N := 101) (v := .bool true) (.inr rfl) Tryz.results5 rfl k11_6 ?_
 exact ⟨rfl, fB11⟩
set_option maxRecDepth 100000 in
set_option maxHeartbeats 4000000 in
theorem blanks_bad2 (l1 h1' l2 h2' l3 h3' l4 h4' l5 h5' : Int) (wo : Bool) (lo hi tab : Int) (w : World) (hE : wishErr ⟨(l1, h1'), (l2, h2'), (l3, h3'), (l4, h4'), (l5, h5'), wo⟩ = 0) (hsp : isSpan (lo, hi) 1 10000 = false) (hA : blankAll ⟨(l1, h1'), (l2, h2'), (l3, h3'), (l4, h4'), (l5, h5'), wo⟩ lo hi tab = (⟨0, [], 0, [], [], 0, false⟩, 0, 3)) (hne : (3 : Int) ≠ 0) :
  Calls Tryz.prog 5 #[.agg #[.int .i64 l1, .int .i64 (h1'), .int .i64 l2, .int .i64 (h2'), .int .i64 l3, .int .i64 (h3'), .int .i64 l4, .int .i64 (h4'), .int .i64 l5, .int .i64 (h5'), .bool wo], .agg #[.int .i64 lo, .int .i64 hi], .int .i64 tab] w (fun e w' => e = .returned (.bool true) ∧ Below w.heap.size w w') := by
 refine calls_fr Tryz.func5 Tryz.ntmps5 rfl rfl fun g hg => ?_
 have k0 : g 0 = .agg #[.int .i64 l1, .int .i64 (h1'), .int .i64 l2, .int .i64 (h2'), .int .i64 l3, .int .i64 (h3'), .int .i64 l4, .int .i64 (h4'), .int .i64 l5, .int .i64 (h5'), .bool wo] := hg 0
 have k1 : g 1 = .agg #[.int .i64 lo, .int .i64 hi] := hg 1
 have k2 : g 2 = .int .i64 tab := hg 2
 clear hg
 have fB0 : Below w.heap.size w w := Below.refl _ _
 refine wp_seq_k fun K1 hK1 => ?_
 refine region_dk 3 [(3, 0), (4, 1), (6, 2)] [[], [], []] (rel [bx 0 #[.int .i64 l1, .int .i64 (h1'), .int .i64 l2, .int .i64 (h2'), .int .i64 l3, .int .i64 (h3'), .int .i64 l4, .int .i64 (h4'), .int .i64 l5, .int .i64 (h5'), .bool wo] 43,
   bx 1 #[.int .i64 lo, .int .i64 hi] 26,
   is (.bool false)])
  ⟨bx_k, bx_k, is_k, trivial⟩
  ⟨fun f s W i j k l m a => opb rfl rfl (by simp [go_sem, a.e 0 k0]),
  fun f s W i j k l m a => opb rfl rfl (by simp [go_sem, a.e 1 k1]),
  fun f s W i j k l m a => opv rfl rfl (by simp [go_sem]) rfl, trivial⟩ ?_
 intro f1 s1 W1 hB1 g1 hg1
 have fB1 := hB1.f fB0
 have z1 := hB1.below.size
 obtain ⟨r1_0, br1_0⟩ := hB1.is 0
 have lr1_0 := hB1.lr 0 br1_0
 obtain ⟨r1_1, br1_1⟩ := hB1.is 1
 have lr1_1 := hB1.lr 1 br1_1
 have ne1_0_1 := hB1.nb 0 1
 refine hK1 _ _ ?_
 have k1_2 := kt hg1 2 k2
 have k1_3 := kt hg1 3 r1_0
 have k1_4 := kt hg1 4 r1_1
 have k1_6 := kt hg1 6 (hB1.is 2)
 refine wp_seq_k fun K2 hK2 => ?_
 refine region_dk 3 [(13, 0), (14, 1), (7, 2)] [[], [0], [0, 1]] (rel [is (.agg #[.int .i64 l1, .int .i64 (h1'), .int .i64 l2, .int .i64 (h2'), .int .i64 l3, .int .i64 (h3'), .int .i64 l4, .int .i64 (h4'), .int .i64 l5, .int .i64 (h5'), .bool wo]),
   is (.int .i64 0),
   is (.int .i64 0)])
  ⟨is_k, is_k, is_k, trivial⟩
  ⟨fun f s W i j k l m a => opv rfl rfl (by simp [go_sem, a.e 3 k1_3, cb br1_0 i 0, cb br1_0 i 1, cb br1_0 i 2, cb br1_0 i 3, cb br1_0 i 4, cb br1_0 i 5, cb br1_0 i 6, cb br1_0 i 7, cb br1_0 i 8, cb br1_0 i 9, cb br1_0 i 10]) rfl,
  fun f s W i j k l m a => opDo_call rfl rfl (by simp [go_sem, a.e 13 (j 0 rfl)]) (wishR_any l1 h1' l2 h2' l3 h3' l4 h4' l5 h5' wo W) ((fun e W' h => by have h1 := h.1; rw [wishR_eq, hE] at h1; exact ⟨_, h1, h.2, rfl⟩)),
  fun f s W i j k l m a => opv rfl rfl (by simp [go_sem, a.e 14 (j 1 rfl)]) rfl, trivial⟩ ?_
 intro f2 s2 W2 hB2 g2 hg2
 have fB2 := hB2.f fB1
 have z2 := hB2.below.size
 have b2_0 := hB2.b br1_0
 have b2_1 := hB2.b br1_1
 refine hK2 _ _ ?_
 have k2_2 := kt hg2 2 k1_2
 have k2_3 := kt hg2 3 k1_3
 have k2_4 := kt hg2 4 k1_4
 have k2_6 := kt hg2 6 k1_6
 have k2_7 := kt hg2 7 (hB2.is 2)
 refine wp_seq_k fun K3 hK3 => ?_
 refine wp_seq_k fun K4 hK4 => ?_
 refine region_dk 7 [(15, 0), (16, 1), (17, 2), (18, 3), (19, 4), (20, 5), (21, 6)] [[], [0], [0, 1], [0, 1, 2], [0, 1, 2, 3], [0, 1, 2, 3, 4], [0, 1, 2, 3, 4, 5]] (rel [is (.int .i64 0),
   is (.bool true),
   is (.bool true),
   is (.agg #[.int .i64 lo, .int .i64 hi]),
   is (.bool false),
   is (.bool true),
   is (.bool true)])
  ⟨is_k, is_k, is_k, is_k, is_k, is_k, is_k, trivial⟩
  ⟨fun f s W i j k l m a => opv rfl rfl (by simp [go_sem, a.e 7 k2_7]) rfl,
  fun f s W i j k l m a => opv rfl rfl (by simp [go_sem, a.e 15 (j 0 rfl)]) rfl,
  fun f s W i j k l m a => opv rfl rfl (by simp [go_sem, a.e 16 (j 1 rfl)]) rfl,
  fun f s W i j k l m a => osure rfl rfl (a.says (d := 17) rfl rfl (j 2 rfl)) (gv (by simp [go_sem, a.e 4 k2_4, cb b2_1 i 0, cb b2_1 i 1]) rfl),
  fun f s W i j k l m a => osure rfl rfl (a.says (d := 17) rfl rfl (j 2 rfl)) (wp_called (by simp [go_sem, a.e 18 (j 3 rfl)]) (spanR_any lo hi 1 10000 W) ((fun e W' h => by have h1 := h.1; rw [spanR_eq, hsp] at h1; exact ⟨_, h1, h.2, rfl⟩))),
  fun f s W i j k l m a => osure rfl rfl (a.says (d := 17) rfl rfl (j 2 rfl)) (gv (by simp [go_sem, a.e 19 (j 4 rfl)]) rfl),
  fun f s W i j k l m a => opk (c := true) rfl rfl (fun h => absurd h (by decide)) (fun _ => by simp [go_sem, a.e 17 (j 2 rfl), a.e 20 (j 5 rfl)]), trivial⟩ ?_
 intro f3 s3 W3 hB3 g3 hg3
 have fB3 := hB3.f fB2
 have z3 := hB3.below.size
 have b3_0 := hB3.b b2_0
 have b3_1 := hB3.b b2_1
 refine hK4 _ _ ?_
 have k3_2 := kt hg3 2 k2_2
 have k3_3 := kt hg3 3 k2_3
 have k3_4 := kt hg3 4 k2_4
 have k3_6 := kt hg3 6 k2_6
 have k3_7 := kt hg3 7 k2_7
 have k3_21 := kt hg3 21 (hB3.is 6)
 refine wp_cond_true ((fr_eval rfl).trans k3_21) ?_
 refine region_dk 1 [(7, 0)] [[]] (rel [is (.int .i64 3)])
  ⟨is_k, trivial⟩
  ⟨fun f s W i j k l m a => opv rfl rfl (by simp [go_sem]) rfl, trivial⟩ ?_
 intro f4 s4 W4 hB4 g4 hg4
 have fB4 := hB4.f fB3
 have z4 := hB4.below.size
 have b4_0 := hB4.b b3_0
 have b4_1 := hB4.b b3_1
 refine hK3 _ _ ?_
 have k4_2 := kt hg4 2 k3_2
 have k4_3 := kt hg4 3 k3_3
 have k4_4 := kt hg4 4 k3_4
 have k4_6 := kt hg4 6 k3_6
 have k4_7 := kt hg4 7 (hB4.is 0)
 refine wp_seq_k fun K6 hK6 => ?_
 refine wp_seq_k fun K7 hK7 => ?_
 refine region_dk 7 [(22, 0), (23, 1), (24, 2), (25, 3), (26, 4), (27, 5), (28, 6)] [[], [0], [0, 1], [0, 1, 2], [0, 1, 2, 3], [0, 1, 2, 3, 4], [0, 1, 2, 3, 4, 5]] (rel [is (.int .i64 3),
   is (.bool false),
   is (.bool false),
   gd (false) true (fun _ _ _ => True),
   gd (false) true (fun _ _ _ => True),
   gd (false) true (fun _ _ _ => True),
   is (.bool false)])
  ⟨is_k, is_k, is_k, gdt_k, gdt_k, gdt_k, is_k, trivial⟩
  ⟨fun f s W i j k l m a => opv rfl rfl (by simp [go_sem, a.e 7 k4_7]) rfl,
  fun f s W i j k l m a => opv rfl rfl (by simp [go_sem, a.e 22 (j 0 rfl)]) rfl,
  fun f s W i j k l m a => opv rfl rfl (by simp [go_sem, a.e 23 (j 1 rfl)]) rfl,
  fun f s W i j k l m a => gno (a.says (d := 24) rfl rfl (j 2 rfl)),
  fun f s W i j k l m a => gno (a.says (d := 24) rfl rfl (j 2 rfl)),
  fun f s W i j k l m a => gno (a.says (d := 24) rfl rfl (j 2 rfl)),
  fun f s W i j k l m a => opk (c := false) rfl rfl (fun _ => by simp [go_sem, a.e 24 (j 2 rfl)]) (fun h => absurd h (by decide)), trivial⟩ ?_
 intro f5 s5 W5 hB5 g5 hg5
 have fB5 := hB5.f fB4
 have z5 := hB5.below.size
 have b5_0 := hB5.b b4_0
 have b5_1 := hB5.b b4_1
 refine hK7 _ _ ?_
 have k5_2 := kt hg5 2 k4_2
 have k5_3 := kt hg5 3 k4_3
 have k5_4 := kt hg5 4 k4_4
 have k5_6 := kt hg5 6 k4_6
 have k5_7 := kt hg5 7 k4_7
 have k5_28 := kt hg5 28 (hB5.is 6)
 refine wp_cond_false ((fr_eval rfl).trans k5_28) ?_
 refine wp_skip ?_
 refine hK6 _ _ ?_
 refine wp_seq_k fun K9 hK9 => ?_
 refine wp_seq_k fun K10 hK10 => ?_
 refine region_dk 10 [(29, 0), (30, 1), (31, 2), (32, 3), (33, 4), (34, 5), (35, 6), (36, 7), (37, 8), (38, 9)] [[], [0], [0, 1], [0, 1, 2], [0, 1, 2, 3], [0, 1, 2], [0, 1, 2, 5], [0, 1, 2, 3, 4, 5, 6], [0, 1, 2, 3, 4, 5, 6, 7], [0, 1, 2, 3, 4, 5, 6, 7, 8]] (rel [is (.int .i64 3),
   is (.bool false),
   is (.bool false),
   gd (false) true (fun _ _ _ => True),
   gd (false) true (fun _ _ _ => True),
   gd (false) true (fun _ _ _ => True),
   gd (false) true (fun _ _ _ => True),
   gd (false) true (fun _ _ _ => True),
   gd (false) true (fun _ _ _ => True),
   is (.bool false)])
  ⟨is_k, is_k, is_k, gdt_k, gdt_k, gdt_k, gdt_k, gdt_k, gdt_k, is_k, trivial⟩
  ⟨fun f s W i j k l m a => opv rfl rfl (by simp [go_sem, a.e 7 k5_7]) rfl,
  fun f s W i j k l m a => opv rfl rfl (by simp [go_sem, a.e 29 (j 0 rfl)]) rfl,
  fun f s W i j k l m a => opv rfl rfl (by simp [go_sem, a.e 30 (j 1 rfl)]) rfl,
  fun f s W i j k l m a => gno (a.says (d := 31) rfl rfl (j 2 rfl)),
  fun f s W i j k l m a => gno (a.says (d := 31) rfl rfl (j 2 rfl)),
  fun f s W i j k l m a => gno (a.says (d := 31) rfl rfl (j 2 rfl)),
  fun f s W i j k l m a => gno (a.says (d := 31) rfl rfl (j 2 rfl)),
  fun f s W i j k l m a => gno (a.says (d := 31) rfl rfl (j 2 rfl)),
  fun f s W i j k l m a => gno (a.says (d := 31) rfl rfl (j 2 rfl)),
  fun f s W i j k l m a => opk (c := false) rfl rfl (fun _ => by simp [go_sem, a.e 31 (j 2 rfl)]) (fun h => absurd h (by decide)), trivial⟩ ?_
 intro f6 s6 W6 hB6 g6 hg6
 have fB6 := hB6.f fB5
 have z6 := hB6.below.size
 have b6_0 := hB6.b b5_0
 have b6_1 := hB6.b b5_1
 refine hK10 _ _ ?_
 have k6_2 := kt hg6 2 k5_2
 have k6_3 := kt hg6 3 k5_3
 have k6_4 := kt hg6 4 k5_4
 have k6_6 := kt hg6 6 k5_6
 have k6_7 := kt hg6 7 k5_7
 have k6_38 := kt hg6 38 (hB6.is 9)
 refine wp_cond_false ((fr_eval rfl).trans k6_38) ?_
 refine wp_skip ?_
 refine hK9 _ _ ?_
 refine wp_seq_k fun K12 hK12 => ?_
 refine region_dk 9 [(41, 0), (42, 1), (43, 2), (44, 3), (40, 4), (45, 5), (46, 6), (47, 7), (8, 8), (9, 10), (10, 11)] [[], [], [], [0, 1, 2], [0, 1, 2, 3], [0, 1, 2, 3, 4], [0, 1, 2, 3, 4], [0, 1, 2, 3, 4], [], [0, 1, 2, 3, 4, 5, 8], [0, 1, 2, 3, 4, 5, 6, 8, 9], [0, 1, 2, 3, 4, 5, 6, 7, 8, 9, 10]] (rel [is (.agg #[.int .i64 l1, .int .i64 (h1'), .int .i64 l2, .int .i64 (h2'), .int .i64 l3, .int .i64 (h3'), .int .i64 l4, .int .i64 (h4'), .int .i64 l5, .int .i64 (h5'), .bool wo]),
   is (.agg #[.int .i64 lo, .int .i64 hi]),
   is (.int .i64 tab),
   is (.tuple #[.agg #[.int .i64 0, .slice (none) (0) (0), .int .i64 0, .slice (none) (0) (0), .slice (none) (0) (0), .int .i64 0, .bool false], .int .i64 0, .int .i64 3]),
   is (.tuple #[.agg #[.int .i64 0, .slice (none) (0) (0), .int .i64 0, .slice (none) (0) (0), .slice (none) (0) (0), .int .i64 0, .bool false], .int .i64 0, .int .i64 3]),
   is (.agg #[.int .i64 0, .slice (none) (0) (0), .int .i64 0, .slice (none) (0) (0), .slice (none) (0) (0), .int .i64 0, .bool false]),
   is (.int .i64 0),
   is (.int .i64 3),
   bx 8 #[.int .i64 0, .slice (none) (0) (0), .int .i64 0, .slice (none) (0) (0), .slice (none) (0) (0), .int .i64 0, .bool false] 24])
  ⟨is_k, is_k, is_k, is_k, is_k, is_k, is_k, is_k, bx_k, trivial⟩
  ⟨fun f s W i j k l m a => opv rfl rfl (by simp [go_sem, a.e 3 k6_3, cb b6_0 i 0, cb b6_0 i 1, cb b6_0 i 2, cb b6_0 i 3, cb b6_0 i 4, cb b6_0 i 5, cb b6_0 i 6, cb b6_0 i 7, cb b6_0 i 8, cb b6_0 i 9, cb b6_0 i 10]) rfl,
  fun f s W i j k l m a => opv rfl rfl (by simp [go_sem, a.e 4 k6_4, cb b6_1 i 0, cb b6_1 i 1]) rfl,
  fun f s W i j k l m a => opv rfl rfl (by simp [go_sem, a.e 2 k6_2]) rfl,
  fun f s W i j k l m a => opDo_call rfl rfl (by simp [go_sem, a.e 41 (j 0 rfl), a.e 42 (j 1 rfl), a.e 43 (j 2 rfl)]) (blank_all l1 h1' l2 h2' l3 h3' l4 h4' l5 h5' wo lo hi tab W) ((fun e W' h => by rw [hA] at h; exact ⟨_, (h.2 hne).1, (h.2 hne).2, rfl⟩)),
  fun f s W i j k l m a => opv rfl rfl (by simp [go_sem, a.e 44 (j 3 rfl)]) rfl,
  fun f s W i j k l m a => opv rfl rfl (by simp [go_sem, a.e 40 (j 4 rfl)]) rfl,
  fun f s W i j k l m a => opv rfl rfl (by simp [go_sem, a.e 40 (j 4 rfl)]) rfl,
  fun f s W i j k l m a => opv rfl rfl (by simp [go_sem, a.e 40 (j 4 rfl)]) rfl,
  fun f s W i j k l m a => opb rfl rfl (by simp [go_sem]), trivial⟩ ?_
 intro f7 s7 W7 hB7 g7 hg7
 have fB7 := hB7.f fB6
 have z7 := hB7.below.size
 have b7_0 := hB7.b b6_0
 have b7_1 := hB7.b b6_1
 obtain ⟨r7_8, br7_8⟩ := hB7.is 8
 have lr7_8 := hB7.lr 8 br7_8
 have k7_2 := kt hg7 2 k6_2
 have k7_3 := kt hg7 3 k6_3
 have k7_4 := kt hg7 4 k6_4
 have k7_6 := kt hg7 6 k6_6
 have k7_7 := kt hg7 7 k6_7
 have k7_45 := kt hg7 45 (hB7.is 5)
 have k7_46 := kt hg7 46 (hB7.is 6)
 have k7_47 := kt hg7 47 (hB7.is 7)
 have k7_8 := kt hg7 8 r7_8
 obtain ⟨W8, hW8⟩ : ∃ W', W' = W7.setRow (s7 8) #[.int .i64 0, .slice (none) (0) (0), .int .i64 0, .slice (none) (0) (0), .slice (none) (0) (0), .int .i64 0, .bool false] := ⟨_, rfl⟩
 refine tail_skip (o := _) rfl ⟨rfl, rfl⟩ (run_seg hW8 (fr_ev k7_8) (fr_ev k7_45) br7_8 rfl rfl rfl rfl) ?_
 obtain ⟨fB8, nb8, ot8, z8⟩ := seg_facts hW8 fB7 br7_8 (by omega)
 clear hW8
 have b8_0 := ot8 _ _ (by omega) b7_0
 have b8_1 := ot8 _ _ (by omega) b7_1
 refine tail_value (o := _) rfl rfl rfl (v := .int .i64 0) (by simp [go_sem, frv 101 k7_46]) ?_
 generalize hg9 : upd g7 9 (.int .i64 0) = g9
 have k9_2 := ku hg9 2 k7_2
 have k9_3 := ku hg9 3 k7_3
 have k9_4 := ku hg9 4 k7_4
 have k9_6 := ku hg9 6 k7_6
 have k9_7 := ku hg9 7 k7_7
 have k9_47 := ku hg9 47 k7_47
 have k9_8 := ku hg9 8 k7_8
 have k9_9 := kt hg9 9 (upd_same _ _ _)
 refine tail_value (o := _) rfl rfl rfl (v := .int .i64 3) (by simp [go_sem, frv 101 k9_47]) ?_
 generalize hg10 : upd g9 10 (.int .i64 3) = g10
 have k10_2 := ku hg10 2 k9_2
 have k10_3 := ku hg10 3 k9_3
 have k10_4 := ku hg10 4 k9_4
 have k10_6 := ku hg10 6 k9_6
 have k10_7 := ku hg10 7 k9_7
 have k10_8 := ku hg10 8 k9_8
 have k10_9 := ku hg10 9 k9_9
 have k10_10 := kt hg10 10 (upd_same _ _ _)
 refine wpOps_end ?_
 refine hK12 _ _ ?_
 refine wp_seq_k fun K13 hK13 => ?_
 refine wp_seq_k fun K14 hK14 => ?_
 refine region_dk 2 [(48, 0), (49, 1)] [[], [0]] (rel [is (.int .i64 3),
   is (.bool true)])
  ⟨is_k, is_k, trivial⟩
  ⟨fun f s W i j k l m a => opv rfl rfl (by simp [go_sem, a.e 7 k10_7]) rfl,
  fun f s W i j k l m a => opv rfl rfl (by simp [go_sem, a.e 48 (j 0 rfl)]) rfl, trivial⟩ ?_
 intro f11 s11 W11 hB11 g11 hg11
 have fB11 := hB11.f fB8
 have z11 := hB11.below.size
 have b11_0 := hB11.b b8_0
 have b11_1 := hB11.b b8_1
 have b11_2 := hB11.b nb8
 refine hK14 _ _ ?_
 have k11_2 := kt hg11 2 k10_2
 have k11_3 := kt hg11 3 k10_3
 have k11_4 := kt hg11 4 k10_4
 have k11_6 := kt hg11 6 k10_6
 have k11_7 := kt hg11 7 k10_7
 have k11_8 := kt hg11 8 k10_8
 have k11_9 := kt hg11 9 k10_9
 have k11_10 := kt hg11 10 k10_10
 have k11_49 := kt hg11 49 (hB11.is 1)
 refine wp_cond_true ((fr_eval rfl).trans k11_49) ?_
 refine wp_seq_k fun K16 hK16 => ?_
 refine region_dk 15 [(50, 0), (51, 1), (52, 2), (53, 3), (54, 4), (55, 5), (56, 6), (57, 7), (58, 8), (59, 9), (60, 10), (61, 11), (62, 12), (63, 13), (6, 14)] [[], [], [0, 1], [0, 1, 2], [0, 1, 2, 3], [0, 1, 2, 3, 4], [0, 1, 2, 3, 4, 5], [0, 1, 2, 3, 4, 5, 6], [0, 1, 2, 3, 4, 5, 6, 7], [0, 1, 2, 3, 4, 5, 6, 7, 8], [0, 1, 2, 3, 4, 5, 6, 7, 8, 9], [0, 1, 2, 3, 4, 5, 6, 7, 8, 9, 10], [0, 1, 2, 3, 4, 5, 6, 7, 8, 9, 10, 11], [0, 1, 2, 3, 4, 5, 6, 7, 8, 9, 10, 11, 12], [0, 1, 2, 3, 4, 5, 6, 7, 8, 9, 10, 11, 12, 13]] (rel [is (.int .i64 3),
   is (.int .i64 3),
   is (.bool true),
   is (.bool true),
   is (.int .i64 0),
   is (.bool true),
   is (.bool true),
   is (.bool true),
   is (.agg #[.int .i64 0, .slice (none) (0) (0), .int .i64 0, .slice (none) (0) (0), .slice (none) (0) (0), .int .i64 0, .bool false]),
   is (.bool true),
   is (.bool true),
   is (.bool true),
   is (.bool true),
   is (.bool true),
   is (.bool true)])
  ⟨is_k, is_k, is_k, is_k, is_k, is_k, is_k, is_k, is_k, is_k, is_k, is_k, is_k, is_k, is_k, trivial⟩
  ⟨fun f s W i j k l m a => opv rfl rfl (by simp [go_sem, a.e 10 k11_10]) rfl,
  fun f s W i j k l m a => opv rfl rfl (by simp [go_sem, a.e 7 k11_7]) rfl,
  fun f s W i j k l m a => opv rfl rfl (by simp [go_sem, a.e 50 (j 0 rfl), a.e 51 (j 1 rfl)]) rfl,
  fun f s W i j k l m a => opv rfl rfl (by simp [go_sem, a.e 52 (j 2 rfl)]) rfl,
  fun f s W i j k l m a => osure rfl rfl (a.says (d := 53) rfl rfl (j 3 rfl)) (gv (by simp [go_sem, a.e 9 k11_9]) rfl),
  fun f s W i j k l m a => osure rfl rfl (a.says (d := 53) rfl rfl (j 3 rfl)) (gv (by simp [go_sem, a.e 54 (j 4 rfl)]) rfl),
  fun f s W i j k l m a => opk (c := true) rfl rfl (fun h => absurd h (by decide)) (fun _ => by simp [go_sem, a.e 53 (j 3 rfl), a.e 55 (j 5 rfl)]),
  fun f s W i j k l m a => opv rfl rfl (by simp [go_sem, a.e 56 (j 6 rfl)]) rfl,
  fun f s W i j k l m a => osure rfl rfl (a.says (d := 57) rfl rfl (j 7 rfl)) (gv (by simp [go_sem, a.e 8 k11_8, cb b11_2 i 0, cb b11_2 i 1, cb b11_2 i 2, cb b11_2 i 3, cb b11_2 i 4, cb b11_2 i 5, cb b11_2 i 6]) rfl),
  fun f s W i j k l m a => osure rfl rfl (a.says (d := 57) rfl rfl (j 7 rfl)) (gc (by simp [go_sem, a.e 58 (j 8 rfl)]) (none_zero W)),
  fun f s W i j k l m a => opk (c := true) rfl rfl (fun h => absurd h (by decide)) (fun _ => by simp [go_sem, a.e 57 (j 7 rfl), a.e 59 (j 9 rfl)]),
  fun f s W i j k l m a => opv rfl rfl (by simp [go_sem, a.e 60 (j 10 rfl)]) rfl,
  fun f s W i j k l m a => osure rfl rfl (a.says (d := 61) rfl rfl (j 11 rfl)) (gc (by simp [go_sem]) (known_any W)),
  fun f s W i j k l m a => opk (c := true) rfl rfl (fun h => absurd h (by decide)) (fun _ => by simp [go_sem, a.e 61 (j 11 rfl), a.e 62 (j 12 rfl)]),
  fun f s W i j k l m a => opv rfl rfl (by simp [go_sem, a.e 63 (j 13 rfl)]) rfl, trivial⟩ ?_
 intro f12 s12 W12 hB12 g12 hg12
 have fB12 := hB12.f fB11
 have z12 := hB12.below.size
 have b12_0 := hB12.b b11_0
 have b12_1 := hB12.b b11_1
 have b12_2 := hB12.b b11_2
 refine hK16 _ _ ?_
 have k12_2 := kt hg12 2 k11_2
 have k12_3 := kt hg12 3 k11_3
 have k12_4 := kt hg12 4 k11_4
 have k12_8 := kt hg12 8 k11_8
 have k12_9 := kt hg12 9 k11_9
 have k12_10 := kt hg12 10 k11_10
 have k12_6 := kt hg12 6 (hB12.is 14)
 refine wp_ret ?_
 refine then_ret ?_
 refine leave_one (N := 101) (v := .bool true) (.inr rfl) Tryz.results5 rfl k12_6 ?_
 exact ⟨rfl, fB12⟩
set_option maxRecDepth 100000 in
set_option maxHeartbeats 4000000 in
theorem blanks_bad3 (l1 h1' l2 h2' l3 h3' l4 h4' l5 h5' : Int) (wo : Bool) (lo hi tab : Int) (w : World) (hE : wishErr ⟨(l1, h1'), (l2, h2'), (l3, h3'), (l4, h4'), (l5, h5'), wo⟩ = 0) (hsp : isSpan (lo, hi) 1 10000 = true) (hio : inB tab 0 100 = false) (hA : blankAll ⟨(l1, h1'), (l2, h2'), (l3, h3'), (l4, h4'), (l5, h5'), wo⟩ lo hi tab = (⟨0, [], 0, [], [], 0, false⟩, 0, 5)) (hne : (5 : Int) ≠ 0) :
  Calls Tryz.prog 5 #[.agg #[.int .i64 l1, .int .i64 (h1'), .int .i64 l2, .int .i64 (h2'), .int .i64 l3, .int .i64 (h3'), .int .i64 l4, .int .i64 (h4'), .int .i64 l5, .int .i64 (h5'), .bool wo], .agg #[.int .i64 lo, .int .i64 hi], .int .i64 tab] w (fun e w' => e = .returned (.bool true) ∧ Below w.heap.size w w') := by
 refine calls_fr Tryz.func5 Tryz.ntmps5 rfl rfl fun g hg => ?_
 have k0 : g 0 = .agg #[.int .i64 l1, .int .i64 (h1'), .int .i64 l2, .int .i64 (h2'), .int .i64 l3, .int .i64 (h3'), .int .i64 l4, .int .i64 (h4'), .int .i64 l5, .int .i64 (h5'), .bool wo] := hg 0
 have k1 : g 1 = .agg #[.int .i64 lo, .int .i64 hi] := hg 1
 have k2 : g 2 = .int .i64 tab := hg 2
 clear hg
 have fB0 : Below w.heap.size w w := Below.refl _ _
 refine wp_seq_k fun K1 hK1 => ?_
 refine region_dk 3 [(3, 0), (4, 1), (6, 2)] [[], [], []] (rel [bx 0 #[.int .i64 l1, .int .i64 (h1'), .int .i64 l2, .int .i64 (h2'), .int .i64 l3, .int .i64 (h3'), .int .i64 l4, .int .i64 (h4'), .int .i64 l5, .int .i64 (h5'), .bool wo] 43,
   bx 1 #[.int .i64 lo, .int .i64 hi] 26,
   is (.bool false)])
  ⟨bx_k, bx_k, is_k, trivial⟩
  ⟨fun f s W i j k l m a => opb rfl rfl (by simp [go_sem, a.e 0 k0]),
  fun f s W i j k l m a => opb rfl rfl (by simp [go_sem, a.e 1 k1]),
  fun f s W i j k l m a => opv rfl rfl (by simp [go_sem]) rfl, trivial⟩ ?_
 intro f1 s1 W1 hB1 g1 hg1
 have fB1 := hB1.f fB0
 have z1 := hB1.below.size
 obtain ⟨r1_0, br1_0⟩ := hB1.is 0
 have lr1_0 := hB1.lr 0 br1_0
 obtain ⟨r1_1, br1_1⟩ := hB1.is 1
 have lr1_1 := hB1.lr 1 br1_1
 have ne1_0_1 := hB1.nb 0 1
 refine hK1 _ _ ?_
 have k1_2 := kt hg1 2 k2
 have k1_3 := kt hg1 3 r1_0
 have k1_4 := kt hg1 4 r1_1
 have k1_6 := kt hg1 6 (hB1.is 2)
 refine wp_seq_k fun K2 hK2 => ?_
 refine region_dk 3 [(13, 0), (14, 1), (7, 2)] [[], [0], [0, 1]] (rel [is (.agg #[.int .i64 l1, .int .i64 (h1'), .int .i64 l2, .int .i64 (h2'), .int .i64 l3, .int .i64 (h3'), .int .i64 l4, .int .i64 (h4'), .int .i64 l5, .int .i64 (h5'), .bool wo]),
   is (.int .i64 0),
   is (.int .i64 0)])
  ⟨is_k, is_k, is_k, trivial⟩
  ⟨fun f s W i j k l m a => opv rfl rfl (by simp [go_sem, a.e 3 k1_3, cb br1_0 i 0, cb br1_0 i 1, cb br1_0 i 2, cb br1_0 i 3, cb br1_0 i 4, cb br1_0 i 5, cb br1_0 i 6, cb br1_0 i 7, cb br1_0 i 8, cb br1_0 i 9, cb br1_0 i 10]) rfl,
  fun f s W i j k l m a => opDo_call rfl rfl (by simp [go_sem, a.e 13 (j 0 rfl)]) (wishR_any l1 h1' l2 h2' l3 h3' l4 h4' l5 h5' wo W) ((fun e W' h => by have h1 := h.1; rw [wishR_eq, hE] at h1; exact ⟨_, h1, h.2, rfl⟩)),
  fun f s W i j k l m a => opv rfl rfl (by simp [go_sem, a.e 14 (j 1 rfl)]) rfl, trivial⟩ ?_
 intro f2 s2 W2 hB2 g2 hg2
 have fB2 := hB2.f fB1
 have z2 := hB2.below.size
 have b2_0 := hB2.b br1_0
 have b2_1 := hB2.b br1_1
 refine hK2 _ _ ?_
 have k2_2 := kt hg2 2 k1_2
 have k2_3 := kt hg2 3 k1_3
 have k2_4 := kt hg2 4 k1_4
 have k2_6 := kt hg2 6 k1_6
 have k2_7 := kt hg2 7 (hB2.is 2)
 refine wp_seq_k fun K3 hK3 => ?_
 refine wp_seq_k fun K4 hK4 => ?_
 refine region_dk 7 [(15, 0), (16, 1), (17, 2), (18, 3), (19, 4), (20, 5), (21, 6)] [[], [0], [0, 1], [0, 1, 2], [0, 1, 2, 3], [0, 1, 2, 3, 4], [0, 1, 2, 3, 4, 5]] (rel [is (.int .i64 0),
   is (.bool true),
   is (.bool true),
   is (.agg #[.int .i64 lo, .int .i64 hi]),
   is (.bool true),
   is (.bool false),
   is (.bool false)])
  ⟨is_k, is_k, is_k, is_k, is_k, is_k, is_k, trivial⟩
  ⟨fun f s W i j k l m a => opv rfl rfl (by simp [go_sem, a.e 7 k2_7]) rfl,
  fun f s W i j k l m a => opv rfl rfl (by simp [go_sem, a.e 15 (j 0 rfl)]) rfl,
  fun f s W i j k l m a => opv rfl rfl (by simp [go_sem, a.e 16 (j 1 rfl)]) rfl,
  fun f s W i j k l m a => osure rfl rfl (a.says (d := 17) rfl rfl (j 2 rfl)) (gv (by simp [go_sem, a.e 4 k2_4, cb b2_1 i 0, cb b2_1 i 1]) rfl),
  fun f s W i j k l m a => osure rfl rfl (a.says (d := 17) rfl rfl (j 2 rfl)) (wp_called (by simp [go_sem, a.e 18 (j 3 rfl)]) (spanR_any lo hi 1 10000 W) ((fun e W' h => by have h1 := h.1; rw [spanR_eq, hsp] at h1; exact ⟨_, h1, h.2, rfl⟩))),
  fun f s W i j k l m a => osure rfl rfl (a.says (d := 17) rfl rfl (j 2 rfl)) (gv (by simp [go_sem, a.e 19 (j 4 rfl)]) rfl),
  fun f s W i j k l m a => opk (c := true) rfl rfl (fun h => absurd h (by decide)) (fun _ => by simp [go_sem, a.e 17 (j 2 rfl), a.e 20 (j 5 rfl)]), trivial⟩ ?_
 intro f3 s3 W3 hB3 g3 hg3
 have fB3 := hB3.f fB2
 have z3 := hB3.below.size
 have b3_0 := hB3.b b2_0
 have b3_1 := hB3.b b2_1
 refine hK4 _ _ ?_
 have k3_2 := kt hg3 2 k2_2
 have k3_3 := kt hg3 3 k2_3
 have k3_4 := kt hg3 4 k2_4
 have k3_6 := kt hg3 6 k2_6
 have k3_7 := kt hg3 7 k2_7
 have k3_21 := kt hg3 21 (hB3.is 6)
 refine wp_cond_false ((fr_eval rfl).trans k3_21) ?_
 refine wp_skip ?_
 refine hK3 _ _ ?_
 refine wp_seq_k fun K6 hK6 => ?_
 refine wp_seq_k fun K7 hK7 => ?_
 refine region_dk 7 [(22, 0), (23, 1), (24, 2), (25, 3), (26, 4), (27, 5), (28, 6)] [[], [0], [0, 1], [0, 1, 2], [0, 1, 2, 3], [0, 1, 2, 3, 4], [0, 1, 2, 3, 4, 5]] (rel [is (.int .i64 0),
   is (.bool true),
   is (.bool true),
   is (.int .i64 tab),
   is (.bool false),
   is (.bool true),
   is (.bool true)])
  ⟨is_k, is_k, is_k, is_k, is_k, is_k, is_k, trivial⟩
  ⟨fun f s W i j k l m a => opv rfl rfl (by simp [go_sem, a.e 7 k3_7]) rfl,
  fun f s W i j k l m a => opv rfl rfl (by simp [go_sem, a.e 22 (j 0 rfl)]) rfl,
  fun f s W i j k l m a => opv rfl rfl (by simp [go_sem, a.e 23 (j 1 rfl)]) rfl,
  fun f s W i j k l m a => osure rfl rfl (a.says (d := 24) rfl rfl (j 2 rfl)) (gv (by simp [go_sem, a.e 2 k3_2]) rfl),
  fun f s W i j k l m a => osure rfl rfl (a.says (d := 24) rfl rfl (j 2 rfl)) (wp_called (by simp [go_sem, a.e 25 (j 3 rfl)]) (in_any tab 0 100 W) ((fun e W' h => by have h1 := h.1; rw [hio] at h1; exact ⟨_, h1, h.2, rfl⟩))),
  fun f s W i j k l m a => osure rfl rfl (a.says (d := 24) rfl rfl (j 2 rfl)) (gv (by simp [go_sem, a.e 26 (j 4 rfl)]) rfl),
  fun f s W i j k l m a => opk (c := true) rfl rfl (fun h => absurd h (by decide)) (fun _ => by simp [go_sem, a.e 24 (j 2 rfl), a.e 27 (j 5 rfl)]), trivial⟩ ?_
 intro f4 s4 W4 hB4 g4 hg4
 have fB4 := hB4.f fB3
 have z4 := hB4.below.size
 have b4_0 := hB4.b b3_0
 have b4_1 := hB4.b b3_1
 refine hK7 _ _ ?_
 have k4_2 := kt hg4 2 k3_2
 have k4_3 := kt hg4 3 k3_3
 have k4_4 := kt hg4 4 k3_4
 have k4_6 := kt hg4 6 k3_6
 have k4_7 := kt hg4 7 k3_7
 have k4_28 := kt hg4 28 (hB4.is 6)
 refine wp_cond_true ((fr_eval rfl).trans k4_28) ?_
 refine region_dk 1 [(7, 0)] [[]] (rel [is (.int .i64 5)])
  ⟨is_k, trivial⟩
  ⟨fun f s W i j k l m a => opv rfl rfl (by simp [go_sem]) rfl, trivial⟩ ?_
 intro f5 s5 W5 hB5 g5 hg5
 have fB5 := hB5.f fB4
 have z5 := hB5.below.size
 have b5_0 := hB5.b b4_0
 have b5_1 := hB5.b b4_1
 refine hK6 _ _ ?_
 have k5_2 := kt hg5 2 k4_2
 have k5_3 := kt hg5 3 k4_3
 have k5_4 := kt hg5 4 k4_4
 have k5_6 := kt hg5 6 k4_6
 have k5_7 := kt hg5 7 (hB5.is 0)
 refine wp_seq_k fun K9 hK9 => ?_
 refine wp_seq_k fun K10 hK10 => ?_
 refine region_dk 10 [(29, 0), (30, 1), (31, 2), (32, 3), (33, 4), (34, 5), (35, 6), (36, 7), (37, 8), (38, 9)] [[], [0], [0, 1], [0, 1, 2], [0, 1, 2, 3], [0, 1, 2], [0, 1, 2, 5], [0, 1, 2, 3, 4, 5, 6], [0, 1, 2, 3, 4, 5, 6, 7], [0, 1, 2, 3, 4, 5, 6, 7, 8]] (rel [is (.int .i64 5),
   is (.bool false),
   is (.bool false),
   gd (false) true (fun _ _ _ => True),
   gd (false) true (fun _ _ _ => True),
   gd (false) true (fun _ _ _ => True),
   gd (false) true (fun _ _ _ => True),
   gd (false) true (fun _ _ _ => True),
   gd (false) true (fun _ _ _ => True),
   is (.bool false)])
  ⟨is_k, is_k, is_k, gdt_k, gdt_k, gdt_k, gdt_k, gdt_k, gdt_k, is_k, trivial⟩
  ⟨fun f s W i j k l m a => opv rfl rfl (by simp [go_sem, a.e 7 k5_7]) rfl,
  fun f s W i j k l m a => opv rfl rfl (by simp [go_sem, a.e 29 (j 0 rfl)]) rfl,
  fun f s W i j k l m a => opv rfl rfl (by simp [go_sem, a.e 30 (j 1 rfl)]) rfl,
  fun f s W i j k l m a => gno (a.says (d := 31) rfl rfl (j 2 rfl)),
  fun f s W i j k l m a => gno (a.says (d := 31) rfl rfl (j 2 rfl)),
  fun f s W i j k l m a => gno (a.says (d := 31) rfl rfl (j 2 rfl)),
  fun f s W i j k l m a => gno (a.says (d := 31) rfl rfl (j 2 rfl)),
  fun f s W i j k l m a => gno (a.says (d := 31) rfl rfl (j 2 rfl)),
  fun f s W i j k l m a => gno (a.says (d := 31) rfl rfl (j 2 rfl)),
  fun f s W i j k l m a => opk (c := false) rfl rfl (fun _ => by simp [go_sem, a.e 31 (j 2 rfl)]) (fun h => absurd h (by decide)), trivial⟩ ?_
 intro f6 s6 W6 hB6 g6 hg6
 have fB6 := hB6.f fB5
 have z6 := hB6.below.size
 have b6_0 := hB6.b b5_0
 have b6_1 := hB6.b b5_1
 refine hK10 _ _ ?_
 have k6_2 := kt hg6 2 k5_2
 have k6_3 := kt hg6 3 k5_3
 have k6_4 := kt hg6 4 k5_4
 have k6_6 := kt hg6 6 k5_6
 have k6_7 := kt hg6 7 k5_7
 have k6_38 := kt hg6 38 (hB6.is 9)
 refine wp_cond_false ((fr_eval rfl).trans k6_38) ?_
 refine wp_skip ?_
 refine hK9 _ _ ?_
 refine wp_seq_k fun K12 hK12 => ?_
 refine region_dk 9 [(41, 0), (42, 1), (43, 2), (44, 3), (40, 4), (45, 5), (46, 6), (47, 7), (8, 8), (9, 10), (10, 11)] [[], [], [], [0, 1, 2], [0, 1, 2, 3], [0, 1, 2, 3, 4], [0, 1, 2, 3, 4], [0, 1, 2, 3, 4], [], [0, 1, 2, 3, 4, 5, 8], [0, 1, 2, 3, 4, 5, 6, 8, 9], [0, 1, 2, 3, 4, 5, 6, 7, 8, 9, 10]] (rel [is (.agg #[.int .i64 l1, .int .i64 (h1'), .int .i64 l2, .int .i64 (h2'), .int .i64 l3, .int .i64 (h3'), .int .i64 l4, .int .i64 (h4'), .int .i64 l5, .int .i64 (h5'), .bool wo]),
   is (.agg #[.int .i64 lo, .int .i64 hi]),
   is (.int .i64 tab),
   is (.tuple #[.agg #[.int .i64 0, .slice (none) (0) (0), .int .i64 0, .slice (none) (0) (0), .slice (none) (0) (0), .int .i64 0, .bool false], .int .i64 0, .int .i64 5]),
   is (.tuple #[.agg #[.int .i64 0, .slice (none) (0) (0), .int .i64 0, .slice (none) (0) (0), .slice (none) (0) (0), .int .i64 0, .bool false], .int .i64 0, .int .i64 5]),
   is (.agg #[.int .i64 0, .slice (none) (0) (0), .int .i64 0, .slice (none) (0) (0), .slice (none) (0) (0), .int .i64 0, .bool false]),
   is (.int .i64 0),
   is (.int .i64 5),
   bx 8 #[.int .i64 0, .slice (none) (0) (0), .int .i64 0, .slice (none) (0) (0), .slice (none) (0) (0), .int .i64 0, .bool false] 24])
  ⟨is_k, is_k, is_k, is_k, is_k, is_k, is_k, is_k, bx_k, trivial⟩
  ⟨fun f s W i j k l m a => opv rfl rfl (by simp [go_sem, a.e 3 k6_3, cb b6_0 i 0, cb b6_0 i 1, cb b6_0 i 2, cb b6_0 i 3, cb b6_0 i 4, cb b6_0 i 5, cb b6_0 i 6, cb b6_0 i 7, cb b6_0 i 8, cb b6_0 i 9, cb b6_0 i 10]) rfl,
  fun f s W i j k l m a => opv rfl rfl (by simp [go_sem, a.e 4 k6_4, cb b6_1 i 0, cb b6_1 i 1]) rfl,
  fun f s W i j k l m a => opv rfl rfl (by simp [go_sem, a.e 2 k6_2]) rfl,
  fun f s W i j k l m a => opDo_call rfl rfl (by simp [go_sem, a.e 41 (j 0 rfl), a.e 42 (j 1 rfl), a.e 43 (j 2 rfl)]) (blank_all l1 h1' l2 h2' l3 h3' l4 h4' l5 h5' wo lo hi tab W) ((fun e W' h => by rw [hA] at h; exact ⟨_, (h.2 hne).1, (h.2 hne).2, rfl⟩)),
  fun f s W i j k l m a => opv rfl rfl (by simp [go_sem, a.e 44 (j 3 rfl)]) rfl,
  fun f s W i j k l m a => opv rfl rfl (by simp [go_sem, a.e 40 (j 4 rfl)]) rfl,
  fun f s W i j k l m a => opv rfl rfl (by simp [go_sem, a.e 40 (j 4 rfl)]) rfl,
  fun f s W i j k l m a => opv rfl rfl (by simp [go_sem, a.e 40 (j 4 rfl)]) rfl,
  fun f s W i j k l m a => opb rfl rfl (by simp [go_sem]), trivial⟩ ?_
 intro f7 s7 W7 hB7 g7 hg7
 have fB7 := hB7.f fB6
 have z7 := hB7.below.size
 have b7_0 := hB7.b b6_0
 have b7_1 := hB7.b b6_1
 obtain ⟨r7_8, br7_8⟩ := hB7.is 8
 have lr7_8 := hB7.lr 8 br7_8
 have k7_2 := kt hg7 2 k6_2
 have k7_3 := kt hg7 3 k6_3
 have k7_4 := kt hg7 4 k6_4
 have k7_6 := kt hg7 6 k6_6
 have k7_7 := kt hg7 7 k6_7
 have k7_45 := kt hg7 45 (hB7.is 5)
 have k7_46 := kt hg7 46 (hB7.is 6)
 have k7_47 := kt hg7 47 (hB7.is 7)
 have k7_8 := kt hg7 8 r7_8
 obtain ⟨W8, hW8⟩ : ∃ W', W' = W7.setRow (s7 8) #[.int .i64 0, .slice (none) (0) (0), .int .i64 0, .slice (none) (0) (0), .slice (none) (0) (0), .int .i64 0, .bool false] := ⟨_, rfl⟩
 refine tail_skip (o := _) rfl ⟨rfl, rfl⟩ (run_seg hW8 (fr_ev k7_8) (fr_ev k7_45) br7_8 rfl rfl rfl rfl) ?_
 obtain ⟨fB8, nb8, ot8, z8⟩ := seg_facts hW8 fB7 br7_8 (by omega)
 clear hW8
 have b8_0 := ot8 _ _ (by omega) b7_0
 have b8_1 := ot8 _ _ (by omega) b7_1
 refine tail_value (o := _) rfl rfl rfl (v := .int .i64 0) (by simp [go_sem, frv 101 k7_46]) ?_
 generalize hg9 : upd g7 9 (.int .i64 0) = g9
 have k9_2 := ku hg9 2 k7_2
 have k9_3 := ku hg9 3 k7_3
 have k9_4 := ku hg9 4 k7_4
 have k9_6 := ku hg9 6 k7_6
 have k9_7 := ku hg9 7 k7_7
 have k9_47 := ku hg9 47 k7_47
 have k9_8 := ku hg9 8 k7_8
 have k9_9 := kt hg9 9 (upd_same _ _ _)
 refine tail_value (o := _) rfl rfl rfl (v := .int .i64 5) (by simp [go_sem, frv 101 k9_47]) ?_
 generalize hg10 : upd g9 10 (.int .i64 5) = g10
 have k10_2 := ku hg10 2 k9_2
 have k10_3 := ku hg10 3 k9_3
 have k10_4 := ku hg10 4 k9_4
 have k10_6 := ku hg10 6 k9_6
 have k10_7 := ku hg10 7 k9_7
 have k10_8 := ku hg10 8 k9_8
 have k10_9 := ku hg10 9 k9_9
 have k10_10 := kt hg10 10 (upd_same _ _ _)
 refine wpOps_end ?_
 refine hK12 _ _ ?_
 refine wp_seq_k fun K13 hK13 => ?_
 refine wp_seq_k fun K14 hK14 => ?_
 refine region_dk 2 [(48, 0), (49, 1)] [[], [0]] (rel [is (.int .i64 5),
   is (.bool true)])
  ⟨is_k, is_k, trivial⟩
  ⟨fun f s W i j k l m a => opv rfl rfl (by simp [go_sem, a.e 7 k10_7]) rfl,
  fun f s W i j k l m a => opv rfl rfl (by simp [go_sem, a.e 48 (j 0 rfl)]) rfl, trivial⟩ ?_
 intro f11 s11 W11 hB11 g11 hg11
 have fB11 := hB11.f fB8
 have z11 := hB11.below.size
 have b11_0 := hB11.b b8_0
 have b11_1 := hB11.b b8_1
 have b11_2 := hB11.b nb8
 refine hK14 _ _ ?_
 have k11_2 := kt hg11 2 k10_2
 have k11_3 := kt hg11 3 k10_3
 have k11_4 := kt hg11 4 k10_4
 have k11_6 := kt hg11 6 k10_6
 have k11_7 := kt hg11 7 k10_7
 have k11_8 := kt hg11 8 k10_8
 have k11_9 := kt hg11 9 k10_9
 have k11_10 := kt hg11 10 k10_10
 have k11_49 := kt hg11 49 (hB11.is 1)
 refine wp_cond_true ((fr_eval rfl).trans k11_49) ?_
 refine wp_seq_k fun K16 hK16 => ?_
 refine region_dk 15 [(50, 0), (51, 1), (52, 2), (53, 3), (54, 4), (55, 5), (56, 6), (57, 7), (58, 8), (59, 9), (60, 10), (61, 11), (62, 12), (63, 13), (6, 14)] [[], [], [0, 1], [0, 1, 2], [0, 1, 2, 3], [0, 1, 2, 3, 4], [0, 1, 2, 3, 4, 5], [0, 1, 2, 3, 4, 5, 6], [0, 1, 2, 3, 4, 5, 6, 7], [0, 1, 2, 3, 4, 5, 6, 7, 8], [0, 1, 2, 3, 4, 5, 6, 7, 8, 9], [0, 1, 2, 3, 4, 5, 6, 7, 8, 9, 10], [0, 1, 2, 3, 4, 5, 6, 7, 8, 9, 10, 11], [0, 1, 2, 3, 4, 5, 6, 7, 8, 9, 10, 11, 12], [0, 1, 2, 3, 4, 5, 6, 7, 8, 9, 10, 11, 12, 13]] (rel [is (.int .i64 5),
   is (.int .i64 5),
   is (.bool true),
   is (.bool true),
   is (.int .i64 0),
   is (.bool true),
   is (.bool true),
   is (.bool true),
   is (.agg #[.int .i64 0, .slice (none) (0) (0), .int .i64 0, .slice (none) (0) (0), .slice (none) (0) (0), .int .i64 0, .bool false]),
   is (.bool true),
   is (.bool true),
   is (.bool true),
   is (.bool true),
   is (.bool true),
   is (.bool true)])
  ⟨is_k, is_k, is_k, is_k, is_k, is_k, is_k, is_k, is_k, is_k, is_k, is_k, is_k, is_k, is_k, trivial⟩
  ⟨fun f s W i j k l m a => opv rfl rfl (by simp [go_sem, a.e 10 k11_10]) rfl,
  fun f s W i j k l m a => opv rfl rfl (by simp [go_sem, a.e 7 k11_7]) rfl,
  fun f s W i j k l m a => opv rfl rfl (by simp [go_sem, a.e 50 (j 0 rfl), a.e 51 (j 1 rfl)]) rfl,
  fun f s W i j k l m a => opv rfl rfl (by simp [go_sem, a.e 52 (j 2 rfl)]) rfl,
  fun f s W i j k l m a => osure rfl rfl (a.says (d := 53) rfl rfl (j 3 rfl)) (gv (by simp [go_sem, a.e 9 k11_9]) rfl),
  fun f s W i j k l m a => osure rfl rfl (a.says (d := 53) rfl rfl (j 3 rfl)) (gv (by simp [go_sem, a.e 54 (j 4 rfl)]) rfl),
  fun f s W i j k l m a => opk (c := true) rfl rfl (fun h => absurd h (by decide)) (fun _ => by simp [go_sem, a.e 53 (j 3 rfl), a.e 55 (j 5 rfl)]),
  fun f s W i j k l m a => opv rfl rfl (by simp [go_sem, a.e 56 (j 6 rfl)]) rfl,
  fun f s W i j k l m a => osure rfl rfl (a.says (d := 57) rfl rfl (j 7 rfl)) (gv (by simp [go_sem, a.e 8 k11_8, cb b11_2 i 0, cb b11_2 i 1, cb b11_2 i 2, cb b11_2 i 3, cb b11_2 i 4, cb b11_2 i 5, cb b11_2 i 6]) rfl),
  fun f s W i j k l m a => osure rfl rfl (a.says (d := 57) rfl rfl (j 7 rfl)) (gc (by simp [go_sem, a.e 58 (j 8 rfl)]) (none_zero W)),
  fun f s W i j k l m a => opk (c := true) rfl rfl (fun h => absurd h (by decide)) (fun _ => by simp [go_sem, a.e 57 (j 7 rfl), a.e 59 (j 9 rfl)]),
  fun f s W i j k l m a => opv rfl rfl (by simp [go_sem, a.e 60 (j 10 rfl)]) rfl,
  fun f s W i j k l m a => osure rfl rfl (a.says (d := 61) rfl rfl (j 11 rfl)) (gc (by simp [go_sem]) (known_any W)),
  fun f s W i j k l m a => opk (c := true) rfl rfl (fun h => absurd h (by decide)) (fun _ => by simp [go_sem, a.e 61 (j 11 rfl), a.e 62 (j 12 rfl)]),
  fun f s W i j k l m a => opv rfl rfl (by simp [go_sem, a.e 63 (j 13 rfl)]) rfl, trivial⟩ ?_
 intro f12 s12 W12 hB12 g12 hg12
 have fB12 := hB12.f fB11
 have z12 := hB12.below.size
 have b12_0 := hB12.b b11_0
 have b12_1 := hB12.b b11_1
 have b12_2 := hB12.b b11_2
 refine hK16 _ _ ?_
 have k12_2 := kt hg12 2 k11_2
 have k12_3 := kt hg12 3 k11_3
 have k12_4 := kt hg12 4 k11_4
 have k12_8 := kt hg12 8 k11_8
 have k12_9 := kt hg12 9 k11_9
 have k12_10 := kt hg12 10 k11_10
 have k12_6 := kt hg12 6 (hB12.is 14)
 refine wp_ret ?_
 refine then_ret ?_
 refine leave_one (N := 101) (v := .bool true) (.inr rfl) Tryz.results5 rfl k12_6 ?_
 exact ⟨rfl, fB12⟩
set_option maxRecDepth 100000 in
set_option maxHeartbeats 4000000 in
theorem blanks_far (l1 h1' l2 h2' l3 h3' l4 h4' l5 h5' : Int) (wo : Bool) (lo hi tab : Int) (w : World) (hE : wishErr ⟨(l1, h1'), (l2, h2'), (l3, h3'), (l4, h4'), (l5, h5'), wo⟩ = 0) (hsp : isSpan (lo, hi) 1 10000 = true) (hio : inB tab 0 100 = true) (hb : 1 ≤ lo ∧ lo ≤ hi ∧ hi ≤ 10000) (hf' : decide (40 < hi - lo) = true) :
  Calls Tryz.prog 5 #[.agg #[.int .i64 l1, .int .i64 (h1'), .int .i64 l2, .int .i64 (h2'), .int .i64 l3, .int .i64 (h3'), .int .i64 l4, .int .i64 (h4'), .int .i64 l5, .int .i64 (h5'), .bool wo], .agg #[.int .i64 lo, .int .i64 hi], .int .i64 tab] w (fun e w' => e = .returned (.bool true) ∧ Below w.heap.size w w') := by
 refine calls_fr Tryz.func5 Tryz.ntmps5 rfl rfl fun g hg => ?_
 have k0 : g 0 = .agg #[.int .i64 l1, .int .i64 (h1'), .int .i64 l2, .int .i64 (h2'), .int .i64 l3, .int .i64 (h3'), .int .i64 l4, .int .i64 (h4'), .int .i64 l5, .int .i64 (h5'), .bool wo] := hg 0
 have k1 : g 1 = .agg #[.int .i64 lo, .int .i64 hi] := hg 1
 have k2 : g 2 = .int .i64 tab := hg 2
 clear hg
 have fB0 : Below w.heap.size w w := Below.refl _ _
 refine wp_seq_k fun K1 hK1 => ?_
 refine region_dk 3 [(3, 0), (4, 1), (6, 2)] [[], [], []] (rel [bx 0 #[.int .i64 l1, .int .i64 (h1'), .int .i64 l2, .int .i64 (h2'), .int .i64 l3, .int .i64 (h3'), .int .i64 l4, .int .i64 (h4'), .int .i64 l5, .int .i64 (h5'), .bool wo] 43,
   bx 1 #[.int .i64 lo, .int .i64 hi] 26,
   is (.bool false)])
  ⟨bx_k, bx_k, is_k, trivial⟩
  ⟨fun f s W i j k l m a => opb rfl rfl (by simp [go_sem, a.e 0 k0]),
  fun f s W i j k l m a => opb rfl rfl (by simp [go_sem, a.e 1 k1]),
  fun f s W i j k l m a => opv rfl rfl (by simp [go_sem]) rfl, trivial⟩ ?_
 intro f1 s1 W1 hB1 g1 hg1
 have fB1 := hB1.f fB0
 have z1 := hB1.below.size
 obtain ⟨r1_0, br1_0⟩ := hB1.is 0
 have lr1_0 := hB1.lr 0 br1_0
 obtain ⟨r1_1, br1_1⟩ := hB1.is 1
 have lr1_1 := hB1.lr 1 br1_1
 have ne1_0_1 := hB1.nb 0 1
 refine hK1 _ _ ?_
 have k1_2 := kt hg1 2 k2
 have k1_3 := kt hg1 3 r1_0
 have k1_4 := kt hg1 4 r1_1
 have k1_6 := kt hg1 6 (hB1.is 2)
 refine wp_seq_k fun K2 hK2 => ?_
 refine region_dk 3 [(13, 0), (14, 1), (7, 2)] [[], [0], [0, 1]] (rel [is (.agg #[.int .i64 l1, .int .i64 (h1'), .int .i64 l2, .int .i64 (h2'), .int .i64 l3, .int .i64 (h3'), .int .i64 l4, .int .i64 (h4'), .int .i64 l5, .int .i64 (h5'), .bool wo]),
   is (.int .i64 0),
   is (.int .i64 0)])
  ⟨is_k, is_k, is_k, trivial⟩
  ⟨fun f s W i j k l m a => opv rfl rfl (by simp [go_sem, a.e 3 k1_3, cb br1_0 i 0, cb br1_0 i 1, cb br1_0 i 2, cb br1_0 i 3, cb br1_0 i 4, cb br1_0 i 5, cb br1_0 i 6, cb br1_0 i 7, cb br1_0 i 8, cb br1_0 i 9, cb br1_0 i 10]) rfl,
  fun f s W i j k l m a => opDo_call rfl rfl (by simp [go_sem, a.e 13 (j 0 rfl)]) (wishR_any l1 h1' l2 h2' l3 h3' l4 h4' l5 h5' wo W) ((fun e W' h => by have h1 := h.1; rw [wishR_eq, hE] at h1; exact ⟨_, h1, h.2, rfl⟩)),
  fun f s W i j k l m a => opv rfl rfl (by simp [go_sem, a.e 14 (j 1 rfl)]) rfl, trivial⟩ ?_
 intro f2 s2 W2 hB2 g2 hg2
 have fB2 := hB2.f fB1
 have z2 := hB2.below.size
 have b2_0 := hB2.b br1_0
 have b2_1 := hB2.b br1_1
 refine hK2 _ _ ?_
 have k2_2 := kt hg2 2 k1_2
 have k2_3 := kt hg2 3 k1_3
 have k2_4 := kt hg2 4 k1_4
 have k2_6 := kt hg2 6 k1_6
 have k2_7 := kt hg2 7 (hB2.is 2)
 refine wp_seq_k fun K3 hK3 => ?_
 refine wp_seq_k fun K4 hK4 => ?_
 refine region_dk 7 [(15, 0), (16, 1), (17, 2), (18, 3), (19, 4), (20, 5), (21, 6)] [[], [0], [0, 1], [0, 1, 2], [0, 1, 2, 3], [0, 1, 2, 3, 4], [0, 1, 2, 3, 4, 5]] (rel [is (.int .i64 0),
   is (.bool true),
   is (.bool true),
   is (.agg #[.int .i64 lo, .int .i64 hi]),
   is (.bool true),
   is (.bool false),
   is (.bool false)])
  ⟨is_k, is_k, is_k, is_k, is_k, is_k, is_k, trivial⟩
  ⟨fun f s W i j k l m a => opv rfl rfl (by simp [go_sem, a.e 7 k2_7]) rfl,
  fun f s W i j k l m a => opv rfl rfl (by simp [go_sem, a.e 15 (j 0 rfl)]) rfl,
  fun f s W i j k l m a => opv rfl rfl (by simp [go_sem, a.e 16 (j 1 rfl)]) rfl,
  fun f s W i j k l m a => osure rfl rfl (a.says (d := 17) rfl rfl (j 2 rfl)) (gv (by simp [go_sem, a.e 4 k2_4, cb b2_1 i 0, cb b2_1 i 1]) rfl),
  fun f s W i j k l m a => osure rfl rfl (a.says (d := 17) rfl rfl (j 2 rfl)) (wp_called (by simp [go_sem, a.e 18 (j 3 rfl)]) (spanR_any lo hi 1 10000 W) ((fun e W' h => by have h1 := h.1; rw [spanR_eq, hsp] at h1; exact ⟨_, h1, h.2, rfl⟩))),
  fun f s W i j k l m a => osure rfl rfl (a.says (d := 17) rfl rfl (j 2 rfl)) (gv (by simp [go_sem, a.e 19 (j 4 rfl)]) rfl),
  fun f s W i j k l m a => opk (c := true) rfl rfl (fun h => absurd h (by decide)) (fun _ => by simp [go_sem, a.e 17 (j 2 rfl), a.e 20 (j 5 rfl)]), trivial⟩ ?_
 intro f3 s3 W3 hB3 g3 hg3
 have fB3 := hB3.f fB2
 have z3 := hB3.below.size
 have b3_0 := hB3.b b2_0
 have b3_1 := hB3.b b2_1
 refine hK4 _ _ ?_
 have k3_2 := kt hg3 2 k2_2
 have k3_3 := kt hg3 3 k2_3
 have k3_4 := kt hg3 4 k2_4
 have k3_6 := kt hg3 6 k2_6
 have k3_7 := kt hg3 7 k2_7
 have k3_21 := kt hg3 21 (hB3.is 6)
 refine wp_cond_false ((fr_eval rfl).trans k3_21) ?_
 refine wp_skip ?_
 refine hK3 _ _ ?_
 refine wp_seq_k fun K6 hK6 => ?_
 refine wp_seq_k fun K7 hK7 => ?_
 refine region_dk 7 [(22, 0), (23, 1), (24, 2), (25, 3), (26, 4), (27, 5), (28, 6)] [[], [0], [0, 1], [0, 1, 2], [0, 1, 2, 3], [0, 1, 2, 3, 4], [0, 1, 2, 3, 4, 5]] (rel [is (.int .i64 0),
   is (.bool true),
   is (.bool true),
   is (.int .i64 tab),
   is (.bool true),
   is (.bool false),
   is (.bool false)])
  ⟨is_k, is_k, is_k, is_k, is_k, is_k, is_k, trivial⟩
  ⟨fun f s W i j k l m a => opv rfl rfl (by simp [go_sem, a.e 7 k3_7]) rfl,
  fun f s W i j k l m a => opv rfl rfl (by simp [go_sem, a.e 22 (j 0 rfl)]) rfl,
  fun f s W i j k l m a => opv rfl rfl (by simp [go_sem, a.e 23 (j 1 rfl)]) rfl,
  fun f s W i j k l m a => osure rfl rfl (a.says (d := 24) rfl rfl (j 2 rfl)) (gv (by simp [go_sem, a.e 2 k3_2]) rfl),
  fun f s W i j k l m a => osure rfl rfl (a.says (d := 24) rfl rfl (j 2 rfl)) (wp_called (by simp [go_sem, a.e 25 (j 3 rfl)]) (in_any tab 0 100 W) ((fun e W' h => by have h1 := h.1; rw [hio] at h1; exact ⟨_, h1, h.2, rfl⟩))),
  fun f s W i j k l m a => osure rfl rfl (a.says (d := 24) rfl rfl (j 2 rfl)) (gv (by simp [go_sem, a.e 26 (j 4 rfl)]) rfl),
  fun f s W i j k l m a => opk (c := true) rfl rfl (fun h => absurd h (by decide)) (fun _ => by simp [go_sem, a.e 24 (j 2 rfl), a.e 27 (j 5 rfl)]), trivial⟩ ?_
 intro f4 s4 W4 hB4 g4 hg4
 have fB4 := hB4.f fB3
 have z4 := hB4.below.size
 have b4_0 := hB4.b b3_0
 have b4_1 := hB4.b b3_1
 refine hK7 _ _ ?_
 have k4_2 := kt hg4 2 k3_2
 have k4_3 := kt hg4 3 k3_3
 have k4_4 := kt hg4 4 k3_4
 have k4_6 := kt hg4 6 k3_6
 have k4_7 := kt hg4 7 k3_7
 have k4_28 := kt hg4 28 (hB4.is 6)
 refine wp_cond_false ((fr_eval rfl).trans k4_28) ?_
 refine wp_skip ?_
 refine hK6 _ _ ?_
 refine wp_seq_k fun K9 hK9 => ?_
 refine wp_seq_k fun K10 hK10 => ?_
 refine region_dk 10 [(29, 0), (30, 1), (31, 2), (32, 3), (33, 4), (34, 5), (35, 6), (36, 7), (37, 8), (38, 9)] [[], [0], [0, 1], [0, 1, 2], [0, 1, 2, 3], [0, 1, 2], [0, 1, 2, 5], [0, 1, 2, 3, 4, 5, 6], [0, 1, 2, 3, 4, 5, 6, 7], [0, 1, 2, 3, 4, 5, 6, 7, 8]] (rel [is (.int .i64 0),
   is (.bool true),
   is (.bool true),
   is (.pointer (some ⟨(s1 1), 1, none⟩)),
   is (.int .i64 hi),
   is (.pointer (some ⟨(s1 1), 0, none⟩)),
   is (.int .i64 lo),
   is (.int .i64 (hi - lo)),
   is (.bool (decide (40 < (hi - lo)))),
   is (.bool (decide (40 < (hi - lo))))])
  ⟨is_k, is_k, is_k, is_k, is_k, is_k, is_k, is_k, is_k, is_k, trivial⟩
  ⟨fun f s W i j k l m a => opv rfl rfl (by simp [go_sem, a.e 7 k4_7]) rfl,
  fun f s W i j k l m a => opv rfl rfl (by simp [go_sem, a.e 29 (j 0 rfl)]) rfl,
  fun f s W i j k l m a => opv rfl rfl (by simp [go_sem, a.e 30 (j 1 rfl)]) rfl,
  fun f s W i j k l m a => osure rfl rfl (a.says (d := 31) rfl rfl (j 2 rfl)) (gv (by simp [go_sem, a.e 4 k4_4]) rfl),
  fun f s W i j k l m a => osure rfl rfl (a.says (d := 31) rfl rfl (j 2 rfl)) (gv (by simp [go_sem, a.e 32 (j 3 rfl), cb b4_1 i 1]) rfl),
  fun f s W i j k l m a => osure rfl rfl (a.says (d := 31) rfl rfl (j 2 rfl)) (gv (by simp [go_sem, a.e 4 k4_4]) rfl),
  fun f s W i j k l m a => osure rfl rfl (a.says (d := 31) rfl rfl (j 2 rfl)) (gv (by simp [go_sem, a.e 34 (j 5 rfl), cb b4_1 i 0]) rfl),
  fun f s W i j k l m a => osure rfl rfl (a.says (d := 31) rfl rfl (j 2 rfl)) (gv (by simp [go_sem, a.e 33 (j 4 rfl), a.e 35 (j 6 rfl), IntWalk.i64_in (hi - lo) (by omega)]) rfl),
  fun f s W i j k l m a => osure rfl rfl (a.says (d := 31) rfl rfl (j 2 rfl)) (gv (by simp [go_sem, a.e 36 (j 7 rfl)]) rfl),
  fun f s W i j k l m a => opk (c := true) rfl rfl (fun h => absurd h (by decide)) (fun _ => by simp [go_sem, a.e 31 (j 2 rfl), a.e 37 (j 8 rfl)]), trivial⟩ ?_
 intro f5 s5 W5 hB5 g5 hg5
 have fB5 := hB5.f fB4
 have z5 := hB5.below.size
 have b5_0 := hB5.b b4_0
 have b5_1 := hB5.b b4_1
 refine hK10 _ _ ?_
 have k5_2 := kt hg5 2 k4_2
 have k5_3 := kt hg5 3 k4_3
 have k5_4 := kt hg5 4 k4_4
 have k5_6 := kt hg5 6 k4_6
 have k5_7 := kt hg5 7 k4_7
 have k5_38 := kt hg5 38 (hB5.is 9)
 have hc11 : (fr 101 g5).eval (.tmp 38) = .bool true := ((fr_eval rfl).trans k5_38).trans (by rw [hf'])
 refine wp_cond_true (hc11) ?_
 refine wp_seq_k fun K12 hK12 => ?_
 refine region_dk 2 [(39, 0), (6, 1)] [[], [0]] (rel [is (.bool true),
   is (.bool true)])
  ⟨is_k, is_k, trivial⟩
  ⟨fun f s W i j k l m a => opc rfl rfl (by simp [go_sem]) (known_any W),
  fun f s W i j k l m a => opv rfl rfl (by simp [go_sem, a.e 39 (j 0 rfl)]) rfl, trivial⟩ ?_
 intro f6 s6 W6 hB6 g6 hg6
 have fB6 := hB6.f fB5
 have z6 := hB6.below.size
 have b6_0 := hB6.b b5_0
 have b6_1 := hB6.b b5_1
 refine hK12 _ _ ?_
 have k6_2 := kt hg6 2 k5_2
 have k6_3 := kt hg6 3 k5_3
 have k6_4 := kt hg6 4 k5_4
 have k6_7 := kt hg6 7 k5_7
 have k6_6 := kt hg6 6 (hB6.is 1)
 refine wp_ret ?_
 refine then_ret ?_
 refine leave_one (N := 101) (v := .bool true) (.inr rfl) Tryz.results5 rfl k6_6 ?_
 exact ⟨rfl, fB6⟩
set_option maxRecDepth 100000 in
set_option maxHeartbeats 4000000 in
theorem blanks_err (l1 h1' l2 h2' l3 h3' l4 h4' l5 h5' : Int) (wo : Bool) (lo hi tab : Int) (w : World) (hE : wishErr ⟨(l1, h1'), (l2, h2'), (l3, h3'), (l4, h4'), (l5, h5'), wo⟩ = 0) (hsp : isSpan (lo, hi) 1 10000 = true) (hio : inB tab 0 100 = true) (hb : 1 ≤ lo ∧ lo ≤ hi ∧ hi ≤ 10000) (hf' : decide (40 < hi - lo) = false) (c : Int) (X : Bl) (hc : decide (c < 10) = true) (hcc : (c == c) = true) (hA : blankAll ⟨(l1, h1'), (l2, h2'), (l3, h3'), (l4, h4'), (l5, h5'), wo⟩ lo hi tab = (⟨0, [], 0, [], [], 0, false⟩, c, 9)) (hne : (9 : Int) ≠ 0) (hR : ∀ W : World, Calls Tryz.prog 30 #[.agg #[.int .i64 l1, .int .i64 (h1'), .int .i64 l2, .int .i64 (h2'), .int .i64 l3, .int .i64 (h3'), .int .i64 l4, .int .i64 (h4'), .int .i64 l5, .int .i64 (h5'), .bool wo], .agg #[.int .i64 lo, .int .i64 hi], .int .i64 tab] W (fun e w' => ∃ v, e = .returned (.tuple #[v, .int .i64 c]) ∧ NwBlk W.heap.size X v w' ∧ Below W.heap.size W w')) (hl1 : X.panels.length = 4) (hl2 : X.top.length = 2) (hl3 : X.bottom.length = 2) :
  Calls Tryz.prog 5 #[.agg #[.int .i64 l1, .int .i64 (h1'), .int .i64 l2, .int .i64 (h2'), .int .i64 l3, .int .i64 (h3'), .int .i64 l4, .int .i64 (h4'), .int .i64 l5, .int .i64 (h5'), .bool wo], .agg #[.int .i64 lo, .int .i64 hi], .int .i64 tab] w (fun e w' => e = .returned (.bool true) ∧ Below w.heap.size w w') := by
 refine calls_fr Tryz.func5 Tryz.ntmps5 rfl rfl fun g hg => ?_
 have k0 : g 0 = .agg #[.int .i64 l1, .int .i64 (h1'), .int .i64 l2, .int .i64 (h2'), .int .i64 l3, .int .i64 (h3'), .int .i64 l4, .int .i64 (h4'), .int .i64 l5, .int .i64 (h5'), .bool wo] := hg 0
 have k1 : g 1 = .agg #[.int .i64 lo, .int .i64 hi] := hg 1
 have k2 : g 2 = .int .i64 tab := hg 2
 clear hg
 have fB0 : Below w.heap.size w w := Below.refl _ _
 refine wp_seq_k fun K1 hK1 => ?_
 refine region_dk 3 [(3, 0), (4, 1), (6, 2)] [[], [], []] (rel [bx 0 #[.int .i64 l1, .int .i64 (h1'), .int .i64 l2, .int .i64 (h2'), .int .i64 l3, .int .i64 (h3'), .int .i64 l4, .int .i64 (h4'), .int .i64 l5, .int .i64 (h5'), .bool wo] 43,
   bx 1 #[.int .i64 lo, .int .i64 hi] 26,
   is (.bool false)])
  ⟨bx_k, bx_k, is_k, trivial⟩
  ⟨fun f s W i j l m n a => opb rfl rfl (by simp [go_sem, a.e 0 k0]),
  fun f s W i j l m n a => opb rfl rfl (by simp [go_sem, a.e 1 k1]),
  fun f s W i j l m n a => opv rfl rfl (by simp [go_sem]) rfl, trivial⟩ ?_
 intro f1 s1 W1 hB1 g1 hg1
 have fB1 := hB1.f fB0
 have z1 := hB1.below.size
 obtain ⟨r1_0, br1_0⟩ := hB1.is 0
 have lr1_0 := hB1.lr 0 br1_0
 obtain ⟨r1_1, br1_1⟩ := hB1.is 1
 have lr1_1 := hB1.lr 1 br1_1
 have ne1_0_1 := hB1.nb 0 1
 refine hK1 _ _ ?_
 have k1_2 := kt hg1 2 k2
 have k1_3 := kt hg1 3 r1_0
 have k1_4 := kt hg1 4 r1_1
 have k1_6 := kt hg1 6 (hB1.is 2)
 refine wp_seq_k fun K2 hK2 => ?_
 refine region_dk 3 [(13, 0), (14, 1), (7, 2)] [[], [0], [0, 1]] (rel [is (.agg #[.int .i64 l1, .int .i64 (h1'), .int .i64 l2, .int .i64 (h2'), .int .i64 l3, .int .i64 (h3'), .int .i64 l4, .int .i64 (h4'), .int .i64 l5, .int .i64 (h5'), .bool wo]),
   is (.int .i64 0),
   is (.int .i64 0)])
  ⟨is_k, is_k, is_k, trivial⟩
  ⟨fun f s W i j l m n a => opv rfl rfl (by simp [go_sem, a.e 3 k1_3, cb br1_0 i 0, cb br1_0 i 1, cb br1_0 i 2, cb br1_0 i 3, cb br1_0 i 4, cb br1_0 i 5, cb br1_0 i 6, cb br1_0 i 7, cb br1_0 i 8, cb br1_0 i 9, cb br1_0 i 10]) rfl,
  fun f s W i j l m n a => opDo_call rfl rfl (by simp [go_sem, a.e 13 (j 0 rfl)]) (wishR_any l1 h1' l2 h2' l3 h3' l4 h4' l5 h5' wo W) ((fun e W' h => by have h1 := h.1; rw [wishR_eq, hE] at h1; exact ⟨_, h1, h.2, rfl⟩)),
  fun f s W i j l m n a => opv rfl rfl (by simp [go_sem, a.e 14 (j 1 rfl)]) rfl, trivial⟩ ?_
 intro f2 s2 W2 hB2 g2 hg2
 have fB2 := hB2.f fB1
 have z2 := hB2.below.size
 have b2_0 := hB2.b br1_0
 have b2_1 := hB2.b br1_1
 refine hK2 _ _ ?_
 have k2_2 := kt hg2 2 k1_2
 have k2_3 := kt hg2 3 k1_3
 have k2_4 := kt hg2 4 k1_4
 have k2_6 := kt hg2 6 k1_6
 have k2_7 := kt hg2 7 (hB2.is 2)
 refine wp_seq_k fun K3 hK3 => ?_
 refine wp_seq_k fun K4 hK4 => ?_
 refine region_dk 7 [(15, 0), (16, 1), (17, 2), (18, 3), (19, 4), (20, 5), (21, 6)] [[], [0], [0, 1], [0, 1, 2], [0, 1, 2, 3], [0, 1, 2, 3, 4], [0, 1, 2, 3, 4, 5]] (rel [is (.int .i64 0),
   is (.bool true),
   is (.bool true),
   is (.agg #[.int .i64 lo, .int .i64 hi]),
   is (.bool true),
   is (.bool false),
   is (.bool false)])
  ⟨is_k, is_k, is_k, is_k, is_k, is_k, is_k, trivial⟩
  ⟨fun f s W i j l m n a => opv rfl rfl (by simp [go_sem, a.e 7 k2_7]) rfl,
  fun f s W i j l m n a => opv rfl rfl (by simp [go_sem, a.e 15 (j 0 rfl)]) rfl,
  fun f s W i j l m n a => opv rfl rfl (by simp [go_sem, a.e 16 (j 1 rfl)]) rfl,
  fun f s W i j l m n a => osure rfl rfl (a.says (d := 17) rfl rfl (j 2 rfl)) (gv (by simp [go_sem, a.e 4 k2_4, cb b2_1 i 0, cb b2_1 i 1]) rfl),
  fun f s W i j l m n a => osure rfl rfl (a.says (d := 17) rfl rfl (j 2 rfl)) (wp_called (by simp [go_sem, a.e 18 (j 3 rfl)]) (spanR_any lo hi 1 10000 W) ((fun e W' h => by have h1 := h.1; rw [spanR_eq, hsp] at h1; exact ⟨_, h1, h.2, rfl⟩))),
  fun f s W i j l m n a => osure rfl rfl (a.says (d := 17) rfl rfl (j 2 rfl)) (gv (by simp [go_sem, a.e 19 (j 4 rfl)]) rfl),
  fun f s W i j l m n a => opk (c := true) rfl rfl (fun h => absurd h (by decide)) (fun _ => by simp [go_sem, a.e 17 (j 2 rfl), a.e 20 (j 5 rfl)]), trivial⟩ ?_
 intro f3 s3 W3 hB3 g3 hg3
 have fB3 := hB3.f fB2
 have z3 := hB3.below.size
 have b3_0 := hB3.b b2_0
 have b3_1 := hB3.b b2_1
 refine hK4 _ _ ?_
 have k3_2 := kt hg3 2 k2_2
 have k3_3 := kt hg3 3 k2_3
 have k3_4 := kt hg3 4 k2_4
 have k3_6 := kt hg3 6 k2_6
 have k3_7 := kt hg3 7 k2_7
 have k3_21 := kt hg3 21 (hB3.is 6)
 refine wp_cond_false ((fr_eval rfl).trans k3_21) ?_
 refine wp_skip ?_
 refine hK3 _ _ ?_
 refine wp_seq_k fun K6 hK6 => ?_
 refine wp_seq_k fun K7 hK7 => ?_
 refine region_dk 7 [(22, 0), (23, 1), (24, 2), (25, 3), (26, 4), (27, 5), (28, 6)] [[], [0], [0, 1], [0, 1, 2], [0, 1, 2, 3], [0, 1, 2, 3, 4], [0, 1, 2, 3, 4, 5]] (rel [is (.int .i64 0),
   is (.bool true),
   is (.bool true),
   is (.int .i64 tab),
   is (.bool true),
   is (.bool false),
   is (.bool false)])
  ⟨is_k, is_k, is_k, is_k, is_k, is_k, is_k, trivial⟩
  ⟨fun f s W i j l m n a => opv rfl rfl (by simp [go_sem, a.e 7 k3_7]) rfl,
  fun f s W i j l m n a => opv rfl rfl (by simp [go_sem, a.e 22 (j 0 rfl)]) rfl,
  fun f s W i j l m n a => opv rfl rfl (by simp [go_sem, a.e 23 (j 1 rfl)]) rfl,
  fun f s W i j l m n a => osure rfl rfl (a.says (d := 24) rfl rfl (j 2 rfl)) (gv (by simp [go_sem, a.e 2 k3_2]) rfl),
  fun f s W i j l m n a => osure rfl rfl (a.says (d := 24) rfl rfl (j 2 rfl)) (wp_called (by simp [go_sem, a.e 25 (j 3 rfl)]) (in_any tab 0 100 W) ((fun e W' h => by have h1 := h.1; rw [hio] at h1; exact ⟨_, h1, h.2, rfl⟩))),
  fun f s W i j l m n a => osure rfl rfl (a.says (d := 24) rfl rfl (j 2 rfl)) (gv (by simp [go_sem, a.e 26 (j 4 rfl)]) rfl),
  fun f s W i j l m n a => opk (c := true) rfl rfl (fun h => absurd h (by decide)) (fun _ => by simp [go_sem, a.e 24 (j 2 rfl), a.e 27 (j 5 rfl)]), trivial⟩ ?_
 intro f4 s4 W4 hB4 g4 hg4
 have fB4 := hB4.f fB3
 have z4 := hB4.below.size
 have b4_0 := hB4.b b3_0
 have b4_1 := hB4.b b3_1
 refine hK7 _ _ ?_
 have k4_2 := kt hg4 2 k3_2
 have k4_3 := kt hg4 3 k3_3
 have k4_4 := kt hg4 4 k3_4
 have k4_6 := kt hg4 6 k3_6
 have k4_7 := kt hg4 7 k3_7
 have k4_28 := kt hg4 28 (hB4.is 6)
 refine wp_cond_false ((fr_eval rfl).trans k4_28) ?_
 refine wp_skip ?_
 refine hK6 _ _ ?_
 refine wp_seq_k fun K9 hK9 => ?_
 refine wp_seq_k fun K10 hK10 => ?_
 refine region_dk 10 [(29, 0), (30, 1), (31, 2), (32, 3), (33, 4), (34, 5), (35, 6), (36, 7), (37, 8), (38, 9)] [[], [0], [0, 1], [0, 1, 2], [0, 1, 2, 3], [0, 1, 2], [0, 1, 2, 5], [0, 1, 2, 3, 4, 5, 6], [0, 1, 2, 3, 4, 5, 6, 7], [0, 1, 2, 3, 4, 5, 6, 7, 8]] (rel [is (.int .i64 0),
   is (.bool true),
   is (.bool true),
   is (.pointer (some ⟨(s1 1), 1, none⟩)),
   is (.int .i64 hi),
   is (.pointer (some ⟨(s1 1), 0, none⟩)),
   is (.int .i64 lo),
   is (.int .i64 (hi - lo)),
   is (.bool (decide (40 < (hi - lo)))),
   is (.bool (decide (40 < (hi - lo))))])
  ⟨is_k, is_k, is_k, is_k, is_k, is_k, is_k, is_k, is_k, is_k, trivial⟩
  ⟨fun f s W i j l m n a => opv rfl rfl (by simp [go_sem, a.e 7 k4_7]) rfl,
  fun f s W i j l m n a => opv rfl rfl (by simp [go_sem, a.e 29 (j 0 rfl)]) rfl,
  fun f s W i j l m n a => opv rfl rfl (by simp [go_sem, a.e 30 (j 1 rfl)]) rfl,
  fun f s W i j l m n a => osure rfl rfl (a.says (d := 31) rfl rfl (j 2 rfl)) (gv (by simp [go_sem, a.e 4 k4_4]) rfl),
  fun f s W i j l m n a => osure rfl rfl (a.says (d := 31) rfl rfl (j 2 rfl)) (gv (by simp [go_sem, a.e 32 (j 3 rfl), cb b4_1 i 1]) rfl),
  fun f s W i j l m n a => osure rfl rfl (a.says (d := 31) rfl rfl (j 2 rfl)) (gv (by simp [go_sem, a.e 4 k4_4]) rfl),
  fun f s W i j l m n a => osure rfl rfl (a.says (d := 31) rfl rfl (j 2 rfl)) (gv (by simp [go_sem, a.e 34 (j 5 rfl), cb b4_1 i 0]) rfl),
  fun f s W i j l m n a => osure rfl rfl (a.says (d := 31) rfl rfl (j 2 rfl)) (gv (by simp [go_sem, a.e 33 (j 4 rfl), a.e 35 (j 6 rfl), IntWalk.i64_in (hi - lo) (by omega)]) rfl),
  fun f s W i j l m n a => osure rfl rfl (a.says (d := 31) rfl rfl (j 2 rfl)) (gv (by simp [go_sem, a.e 36 (j 7 rfl)]) rfl),
  fun f s W i j l m n a => opk (c := true) rfl rfl (fun h => absurd h (by decide)) (fun _ => by simp [go_sem, a.e 31 (j 2 rfl), a.e 37 (j 8 rfl)]), trivial⟩ ?_
 intro f5 s5 W5 hB5 g5 hg5
 have fB5 := hB5.f fB4
 have z5 := hB5.below.size
 have b5_0 := hB5.b b4_0
 have b5_1 := hB5.b b4_1
 refine hK10 _ _ ?_
 have k5_2 := kt hg5 2 k4_2
 have k5_3 := kt hg5 3 k4_3
 have k5_4 := kt hg5 4 k4_4
 have k5_6 := kt hg5 6 k4_6
 have k5_7 := kt hg5 7 k4_7
 have k5_38 := kt hg5 38 (hB5.is 9)
 have hc11 : (fr 101 g5).eval (.tmp 38) = .bool false := ((fr_eval rfl).trans k5_38).trans (by rw [hf'])
 refine wp_cond_false (hc11) ?_
 refine wp_skip ?_
 refine hK9 _ _ ?_
 refine wp_seq_k fun K12 hK12 => ?_
 refine region_dk 9 [(41, 0), (42, 1), (43, 2), (44, 3), (40, 4), (45, 5), (46, 6), (47, 7), (8, 8), (9, 10), (10, 11)] [[], [], [], [0, 1, 2], [0, 1, 2, 3], [0, 1, 2, 3, 4], [0, 1, 2, 3, 4], [0, 1, 2, 3, 4], [], [0, 1, 2, 3, 4, 5, 8], [0, 1, 2, 3, 4, 5, 6, 8, 9], [0, 1, 2, 3, 4, 5, 6, 7, 8, 9, 10]] (rel [is (.agg #[.int .i64 l1, .int .i64 (h1'), .int .i64 l2, .int .i64 (h2'), .int .i64 l3, .int .i64 (h3'), .int .i64 l4, .int .i64 (h4'), .int .i64 l5, .int .i64 (h5'), .bool wo]),
   is (.agg #[.int .i64 lo, .int .i64 hi]),
   is (.int .i64 tab),
   is (.tuple #[.agg #[.int .i64 0, .slice (none) (0) (0), .int .i64 0, .slice (none) (0) (0), .slice (none) (0) (0), .int .i64 0, .bool false], .int .i64 c, .int .i64 9]),
   is (.tuple #[.agg #[.int .i64 0, .slice (none) (0) (0), .int .i64 0, .slice (none) (0) (0), .slice (none) (0) (0), .int .i64 0, .bool false], .int .i64 c, .int .i64 9]),
   is (.agg #[.int .i64 0, .slice (none) (0) (0), .int .i64 0, .slice (none) (0) (0), .slice (none) (0) (0), .int .i64 0, .bool false]),
   is (.int .i64 c),
   is (.int .i64 9),
   bx 8 #[.int .i64 0, .slice (none) (0) (0), .int .i64 0, .slice (none) (0) (0), .slice (none) (0) (0), .int .i64 0, .bool false] 24])
  ⟨is_k, is_k, is_k, is_k, is_k, is_k, is_k, is_k, bx_k, trivial⟩
  ⟨fun f s W i j l m n a => opv rfl rfl (by simp [go_sem, a.e 3 k5_3, cb b5_0 i 0, cb b5_0 i 1, cb b5_0 i 2, cb b5_0 i 3, cb b5_0 i 4, cb b5_0 i 5, cb b5_0 i 6, cb b5_0 i 7, cb b5_0 i 8, cb b5_0 i 9, cb b5_0 i 10]) rfl,
  fun f s W i j l m n a => opv rfl rfl (by simp [go_sem, a.e 4 k5_4, cb b5_1 i 0, cb b5_1 i 1]) rfl,
  fun f s W i j l m n a => opv rfl rfl (by simp [go_sem, a.e 2 k5_2]) rfl,
  fun f s W i j l m n a => opDo_call rfl rfl (by simp [go_sem, a.e 41 (j 0 rfl), a.e 42 (j 1 rfl), a.e 43 (j 2 rfl)]) (blank_all l1 h1' l2 h2' l3 h3' l4 h4' l5 h5' wo lo hi tab W) ((fun e W' h => by rw [hA] at h; exact ⟨_, (h.2 hne).1, (h.2 hne).2, rfl⟩)),
  fun f s W i j l m n a => opv rfl rfl (by simp [go_sem, a.e 44 (j 3 rfl)]) rfl,
  fun f s W i j l m n a => opv rfl rfl (by simp [go_sem, a.e 40 (j 4 rfl)]) rfl,
  fun f s W i j l m n a => opv rfl rfl (by simp [go_sem, a.e 40 (j 4 rfl)]) rfl,
  fun f s W i j l m n a => opv rfl rfl (by simp [go_sem, a.e 40 (j 4 rfl)]) rfl,
  fun f s W i j l m n a => opb rfl rfl (by simp [go_sem]), trivial⟩ ?_
 intro f6 s6 W6 hB6 g6 hg6
 have fB6 := hB6.f fB5
 have z6 := hB6.below.size
 have b6_0 := hB6.b b5_0
 have b6_1 := hB6.b b5_1
 obtain ⟨r6_8, br6_8⟩ := hB6.is 8
 have lr6_8 := hB6.lr 8 br6_8
 have k6_2 := kt hg6 2 k5_2
 have k6_3 := kt hg6 3 k5_3
 have k6_4 := kt hg6 4 k5_4
 have k6_6 := kt hg6 6 k5_6
 have k6_7 := kt hg6 7 k5_7
 have k6_45 := kt hg6 45 (hB6.is 5)
 have k6_46 := kt hg6 46 (hB6.is 6)
 have k6_47 := kt hg6 47 (hB6.is 7)
 have k6_8 := kt hg6 8 r6_8
 obtain ⟨W7, hW7⟩ : ∃ W', W' = W6.setRow (s6 8) #[.int .i64 0, .slice (none) (0) (0), .int .i64 0, .slice (none) (0) (0), .slice (none) (0) (0), .int .i64 0, .bool false] := ⟨_, rfl⟩
 refine tail_skip (o := _) rfl ⟨rfl, rfl⟩ (run_seg hW7 (fr_ev k6_8) (fr_ev k6_45) br6_8 rfl rfl rfl rfl) ?_
 obtain ⟨fB7, nb7, ot7, z7⟩ := seg_facts hW7 fB6 br6_8 (by omega)
 clear hW7
 have b7_0 := ot7 _ _ (by omega) b6_0
 have b7_1 := ot7 _ _ (by omega) b6_1
 refine tail_value (o := _) rfl rfl rfl (v := .int .i64 c) (by simp [go_sem, frv 101 k6_46]) ?_
 generalize hg8 : upd g6 9 (.int .i64 c) = g8
 have k8_2 := ku hg8 2 k6_2
 have k8_3 := ku hg8 3 k6_3
 have k8_4 := ku hg8 4 k6_4
 have k8_6 := ku hg8 6 k6_6
 have k8_7 := ku hg8 7 k6_7
 have k8_47 := ku hg8 47 k6_47
 have k8_8 := ku hg8 8 k6_8
 have k8_9 := kt hg8 9 (upd_same _ _ _)
 refine tail_value (o := _) rfl rfl rfl (v := .int .i64 9) (by simp [go_sem, frv 101 k8_47]) ?_
 generalize hg9 : upd g8 10 (.int .i64 9) = g9
 have k9_2 := ku hg9 2 k8_2
 have k9_3 := ku hg9 3 k8_3
 have k9_4 := ku hg9 4 k8_4
 have k9_6 := ku hg9 6 k8_6
 have k9_7 := ku hg9 7 k8_7
 have k9_8 := ku hg9 8 k8_8
 have k9_9 := ku hg9 9 k8_9
 have k9_10 := kt hg9 10 (upd_same _ _ _)
 refine wpOps_end ?_
 refine hK12 _ _ ?_
 refine wp_seq_k fun K13 hK13 => ?_
 refine wp_seq_k fun K14 hK14 => ?_
 refine region_dk 2 [(48, 0), (49, 1)] [[], [0]] (rel [is (.int .i64 0),
   is (.bool false)])
  ⟨is_k, is_k, trivial⟩
  ⟨fun f s W i j l m n a => opv rfl rfl (by simp [go_sem, a.e 7 k9_7]) rfl,
  fun f s W i j l m n a => opv rfl rfl (by simp [go_sem, a.e 48 (j 0 rfl)]) rfl, trivial⟩ ?_
 intro f10 s10 W10 hB10 g10 hg10
 have fB10 := hB10.f fB7
 have z10 := hB10.below.size
 have b10_0 := hB10.b b7_0
 have b10_1 := hB10.b b7_1
 have b10_2 := hB10.b nb7
 refine hK14 _ _ ?_
 have k10_2 := kt hg10 2 k9_2
 have k10_3 := kt hg10 3 k9_3
 have k10_4 := kt hg10 4 k9_4
 have k10_6 := kt hg10 6 k9_6
 have k10_7 := kt hg10 7 k9_7
 have k10_8 := kt hg10 8 k9_8
 have k10_9 := kt hg10 9 k9_9
 have k10_10 := kt hg10 10 k9_10
 have k10_49 := kt hg10 49 (hB10.is 1)
 refine wp_cond_false ((fr_eval rfl).trans k10_49) ?_
 refine wp_skip ?_
 refine hK13 _ _ ?_
 refine wp_seq_k fun K16 hK16 => ?_
 refine region_dk 8 [(65, 0), (66, 1), (67, 2), (68, 3), (64, 4), (69, 5), (70, 6), (11, 7), (12, 9)] [[], [], [], [0, 1, 2], [0, 1, 2, 3], [0, 1, 2, 3, 4], [0, 1, 2, 3, 4], [], [0, 1, 2, 3, 4, 5, 7], [0, 1, 2, 3, 4, 5, 6, 7, 8]] (rel [is (.agg #[.int .i64 l1, .int .i64 (h1'), .int .i64 l2, .int .i64 (h2'), .int .i64 l3, .int .i64 (h3'), .int .i64 l4, .int .i64 (h4'), .int .i64 l5, .int .i64 (h5'), .bool wo]),
   is (.agg #[.int .i64 lo, .int .i64 hi]),
   is (.int .i64 tab),
   fun v s W => ∃ x0, v = .tuple #[x0, .int .i64 c] ∧ NwBlk (s 3) (X) x0 W,
   fun v s W => ∃ x0, v = .tuple #[x0, .int .i64 c] ∧ NwBlk (s 3) (X) x0 W,
   fun v s W => NwBlk (s 3) (X) v W,
   is (.int .i64 c),
   bx 7 #[.int .i64 0, .slice (none) (0) (0), .int .i64 0, .slice (none) (0) (0), .slice (none) (0) (0), .int .i64 0, .bool false] 24])
  ⟨is_k, is_k, is_k, ⟨fun v k W W' hb ⟨x0, e, h0⟩ => ⟨x0, e, h0.below hb⟩, fun v s s' W e ⟨x0, e1, h0⟩ => ⟨x0, e1, (e 3 (by simp)) ▸ h0⟩⟩, ⟨fun v k W W' hb ⟨x0, e, h0⟩ => ⟨x0, e, h0.below hb⟩, fun v s s' W e h => by have h' : ∃ x0, v = .tuple #[x0, .int .i64 c] ∧ NwBlk (s 3) (X) x0 W := h; show ∃ x0, v = .tuple #[x0, .int .i64 c] ∧ NwBlk (s' 3) (X) x0 W; rw [← e 3 (by simp)]; exact h'⟩, ⟨fun v k W W' hb h => h.below hb, fun v s s' W e h => by have h' : NwBlk (s 3) (X) v W := h; show NwBlk (s' 3) (X) v W; rw [← e 3 (by simp)]; exact h'⟩, is_k, bx_k, trivial⟩
  ⟨fun f s W i j l m n a => opv rfl rfl (by simp [go_sem, a.e 3 k10_3, cb b10_0 i 0, cb b10_0 i 1, cb b10_0 i 2, cb b10_0 i 3, cb b10_0 i 4, cb b10_0 i 5, cb b10_0 i 6, cb b10_0 i 7, cb b10_0 i 8, cb b10_0 i 9, cb b10_0 i 10]) rfl,
  fun f s W i j l m n a => opv rfl rfl (by simp [go_sem, a.e 4 k10_4, cb b10_1 i 0, cb b10_1 i 1]) rfl,
  fun f s W i j l m n a => opv rfl rfl (by simp [go_sem, a.e 2 k10_2]) rfl,
  fun f s W i j l m n a => opDo_call rfl rfl (by simp [go_sem, a.e 65 (j 0 rfl), a.e 66 (j 1 rfl), a.e 67 (j 2 rfl)]) (hR W) (fun e W' h => by obtain ⟨u, e1, h1, h2⟩ := h; exact ⟨_, e1, h2, u, rfl, (show NwBlk (upd s 3 W.heap.size 3) (X) u W' from by rw [upd_at]; exact h1)⟩),
  fun f s W i j l m n a => opv (v := (f 3)) rfl rfl (by simp [go_sem, (a.at' 68 rfl : n.tmps[68]?.getD undef = f 3)] <;> rfl) (j 3 rfl),
  fun f s W i j l m n a => by obtain ⟨x4_0, d4, p4_0⟩ := (j 4 rfl); exact opv (v := x4_0) rfl rfl (by simp [go_sem, a.e 64 d4]) p4_0,
  fun f s W i j l m n a => by obtain ⟨x4_0, d4, p4_0⟩ := (j 4 rfl); exact opv rfl rfl (by simp [go_sem, a.e 64 d4]) rfl,
  fun f s W i j l m n a => opb rfl rfl (by simp [go_sem]), trivial⟩ ?_
 intro f11 s11 W11 hB11 g11 hg11
 have fB11 := hB11.f fB10
 have z11 := hB11.below.size
 have b11_0 := hB11.b b10_0
 have b11_1 := hB11.b b10_1
 have b11_2 := hB11.b b10_2
 have la11_5_3 := hB11.from' 3 (by decide)
 obtain ⟨g1', c4', g2', c5', g3', c6', r11_5, ⟨q7', q9', q8'⟩, ⟨q10', q12', q11'⟩, ⟨q13', q15', q14'⟩⟩ := hB11.is 5
 obtain ⟨r11_7, br11_7⟩ := hB11.is 7
 have lr11_7 := hB11.lr 7 br11_7
 have oc11_5_7_0 := step_ne q7' (by omega) br11_7 rfl
 have oc11_5_7_1 := step_ne q10' (by omega) br11_7 rfl
 have oc11_5_7_2 := step_ne q13' (by omega) br11_7 rfl
 have k11_6 := kt hg11 6 k10_6
 have k11_8 := kt hg11 8 k10_8
 have k11_9 := kt hg11 9 k10_9
 have k11_10 := kt hg11 10 k10_10
 have k11_69 := kt hg11 69 r11_5
 have k11_70 := kt hg11 70 (hB11.is 6)
 have k11_11 := kt hg11 11 r11_7
 obtain ⟨W12, hW12⟩ : ∃ W', W' = W11.setRow (s11 7) #[.int .i64 X.tab, .slice (some ⟨g1', 0, none⟩) (X.panels.length) (c4'), .int .i64 X.height, .slice (some ⟨g2', 0, none⟩) (X.top.length) (c5'), .slice (some ⟨g3', 0, none⟩) (X.bottom.length) (c6'), .int .i64 X.slot, .bool X.isOpen] := ⟨_, rfl⟩
 refine tail_skip (o := _) rfl ⟨rfl, rfl⟩ (run_seg hW12 (fr_ev k11_11) (fr_ev k11_69) br11_7 rfl rfl rfl rfl) ?_
 obtain ⟨fB12, nb12, ot12, z12⟩ := seg_facts hW12 fB11 br11_7 (by omega)
 clear hW12
 have b12_0 := ot12 _ _ (by omega) b11_0
 have b12_1 := ot12 _ _ (by omega) b11_1
 have b12_2 := ot12 _ _ (by omega) b11_2
 have q16' := (q7'.other ot12 q8' (by omega) z12)
 have q17' := Nat.lt_of_lt_of_le q8' z12
 have q18' := (q10'.other ot12 q11' (by omega) z12)
 have q19' := Nat.lt_of_lt_of_le q11' z12
 have q20' := (q13'.other ot12 q14' (by omega) z12)
 have q21' := Nat.lt_of_lt_of_le q14' z12
 refine tail_value (o := _) rfl rfl rfl (v := .int .i64 c) (by simp [go_sem, frv 101 k11_70]) ?_
 generalize hg13 : upd g11 12 (.int .i64 c) = g13
 have k13_6 := ku hg13 6 k11_6
 have k13_8 := ku hg13 8 k11_8
 have k13_9 := ku hg13 9 k11_9
 have k13_10 := ku hg13 10 k11_10
 have k13_11 := ku hg13 11 k11_11
 have k13_12 := kt hg13 12 (upd_same _ _ _)
 refine wpOps_end ?_
 refine hK16 _ _ ?_
 refine wp_seq_k fun K17 hK17 => ?_
 refine wp_seq_k fun K18 hK18 => ?_
 refine region_dk 2 [(71, 0), (72, 1)] [[], [0]] (rel [is (.int .i64 c),
   is (.bool (decide (c < 10)))])
  ⟨is_k, is_k, trivial⟩
  ⟨fun f s W i j l m n a => opv rfl rfl (by simp [go_sem, a.e 12 k13_12]) rfl,
  fun f s W i j l m n a => opv rfl rfl (by simp [go_sem, a.e 71 (j 0 rfl)]) rfl, trivial⟩ ?_
 intro f14 s14 W14 hB14 g14 hg14
 have fB14 := hB14.f fB12
 have z14 := hB14.below.size
 have b14_0 := hB14.b b12_0
 have b14_1 := hB14.b b12_1
 have b14_2 := hB14.b b12_2
 have b14_3 := hB14.b nb12
 have q22' := (q16'.bw hB14)
 have q23' := (hB14.lt q17')
 have q24' := (q18'.bw hB14)
 have q25' := (hB14.lt q19')
 have q26' := (q20'.bw hB14)
 have q27' := (hB14.lt q21')
 refine hK18 _ _ ?_
 have k14_6 := kt hg14 6 k13_6
 have k14_8 := kt hg14 8 k13_8
 have k14_9 := kt hg14 9 k13_9
 have k14_10 := kt hg14 10 k13_10
 have k14_11 := kt hg14 11 k13_11
 have k14_12 := kt hg14 12 k13_12
 have k14_72 := kt hg14 72 (hB14.is 1)
 have hc19 : (fr 101 g14).eval (.tmp 72) = .bool true := ((fr_eval rfl).trans k14_72).trans (by rw [hc])
 refine wp_cond_true (hc19) ?_
 refine wp_seq_k fun K20 hK20 => ?_
 refine region_dk 15 [(73, 0), (74, 1), (75, 2), (76, 3), (77, 4), (78, 5), (79, 6), (80, 7), (81, 8), (82, 9), (83, 10), (84, 11), (85, 12), (86, 13), (6, 14)] [[], [0], [0, 1], [0, 1, 2], [0, 1, 2], [0, 1, 2, 3, 4], [0, 1, 2, 3, 4, 5], [0, 1, 2, 3, 4, 5, 6], [0, 1, 2, 3, 4, 5, 6, 7], [0, 1, 2, 3, 4, 5, 6, 7, 8], [0, 1, 2, 3, 4, 5, 6, 7, 8, 9], [0, 1, 2, 3, 4, 5, 6, 7, 8, 9, 10], [0, 1, 2, 3, 4, 5, 6, 7, 8, 9, 10, 11], [0, 1, 2, 3, 4, 5, 6, 7, 8, 9, 10, 11, 12], [0, 1, 2, 3, 4, 5, 6, 7, 8, 9, 10, 11, 12, 13]] (rel [is (.int .i64 9),
   is (.bool true),
   is (.bool true),
   is (.int .i64 c),
   is (.int .i64 c),
   is (.bool true),
   is (.bool true),
   is (.bool true),
   is (.agg #[.int .i64 0, .slice (none) (0) (0), .int .i64 0, .slice (none) (0) (0), .slice (none) (0) (0), .int .i64 0, .bool false]),
   is (.bool true),
   is (.bool true),
   is (.bool true),
   is (.bool true),
   is (.bool true),
   is (.bool true)])
  ⟨is_k, is_k, is_k, is_k, is_k, is_k, is_k, is_k, is_k, is_k, is_k, is_k, is_k, is_k, is_k, trivial⟩
  ⟨fun f s W i j l m n a => opv rfl rfl (by simp [go_sem, a.e 10 k14_10]) rfl,
  fun f s W i j l m n a => opv rfl rfl (by simp [go_sem, a.e 73 (j 0 rfl)]) rfl,
  fun f s W i j l m n a => opv rfl rfl (by simp [go_sem, a.e 74 (j 1 rfl)]) rfl,
  fun f s W i j l m n a => osure rfl rfl (a.says (d := 75) rfl rfl (j 2 rfl)) (gv (by simp [go_sem, a.e 9 k14_9]) rfl),
  fun f s W i j l m n a => osure rfl rfl (a.says (d := 75) rfl rfl (j 2 rfl)) (gv (by simp [go_sem, a.e 12 k14_12]) rfl),
  fun f s W i j l m n a => osure rfl rfl (a.says (d := 75) rfl rfl (j 2 rfl)) (gv (by simp [go_sem, a.e 76 (j 3 rfl), a.e 77 (j 4 rfl), hcc]) rfl),
  fun f s W i j l m n a => opk (c := true) rfl rfl (fun h => absurd h (by decide)) (fun _ => by simp [go_sem, a.e 75 (j 2 rfl), a.e 78 (j 5 rfl)]),
  fun f s W i j l m n a => opv rfl rfl (by simp [go_sem, a.e 79 (j 6 rfl)]) rfl,
  fun f s W i j l m n a => osure rfl rfl (a.says (d := 80) rfl rfl (j 7 rfl)) (gv (by simp [go_sem, a.e 8 k14_8, cb b14_2 i 0, cb b14_2 i 1, cb b14_2 i 2, cb b14_2 i 3, cb b14_2 i 4, cb b14_2 i 5, cb b14_2 i 6]) rfl),
  fun f s W i j l m n a => osure rfl rfl (a.says (d := 80) rfl rfl (j 7 rfl)) (gc (by simp [go_sem, a.e 81 (j 8 rfl)]) (none_zero W)),
  fun f s W i j l m n a => opk (c := true) rfl rfl (fun h => absurd h (by decide)) (fun _ => by simp [go_sem, a.e 80 (j 7 rfl), a.e 82 (j 9 rfl)]),
  fun f s W i j l m n a => opv rfl rfl (by simp [go_sem, a.e 83 (j 10 rfl)]) rfl,
  fun f s W i j l m n a => osure rfl rfl (a.says (d := 84) rfl rfl (j 11 rfl)) (gc (by simp [go_sem]) (known_any W)),
  fun f s W i j l m n a => opk (c := true) rfl rfl (fun h => absurd h (by decide)) (fun _ => by simp [go_sem, a.e 84 (j 11 rfl), a.e 85 (j 12 rfl)]),
  fun f s W i j l m n a => opv rfl rfl (by simp [go_sem, a.e 86 (j 13 rfl)]) rfl, trivial⟩ ?_
 intro f15 s15 W15 hB15 g15 hg15
 have fB15 := hB15.f fB14
 have z15 := hB15.below.size
 have b15_0 := hB15.b b14_0
 have b15_1 := hB15.b b14_1
 have b15_2 := hB15.b b14_2
 have b15_3 := hB15.b b14_3
 have q28' := (q22'.bw hB15)
 have q29' := (hB15.lt q23')
 have q30' := (q24'.bw hB15)
 have q31' := (hB15.lt q25')
 have q32' := (q26'.bw hB15)
 have q33' := (hB15.lt q27')
 refine hK20 _ _ ?_
 have k15_8 := kt hg15 8 k14_8
 have k15_9 := kt hg15 9 k14_9
 have k15_10 := kt hg15 10 k14_10
 have k15_11 := kt hg15 11 k14_11
 have k15_6 := kt hg15 6 (hB15.is 14)
 refine wp_ret ?_
 refine then_ret ?_
 refine leave_one (N := 101) (v := .bool true) (.inr rfl) Tryz.results5 rfl k15_6 ?_
 exact ⟨rfl, fB15⟩
set_option maxRecDepth 100000 in
set_option maxHeartbeats 4000000 in
theorem blanks_good (l1 h1' l2 h2' l3 h3' l4 h4' l5 h5' : Int) (wo : Bool) (lo hi tab : Int) (w : World) (hE : wishErr ⟨(l1, h1'), (l2, h2'), (l3, h3'), (l4, h4'), (l5, h5'), wo⟩ = 0) (hsp : isSpan (lo, hi) 1 10000 = true) (hio : inB tab 0 100 = true) (hb : 1 ≤ lo ∧ lo ≤ hi ∧ hi ≤ 10000) (hf' : decide (40 < hi - lo) = false) (Bg : Bl) (hA : blankAll ⟨(l1, h1'), (l2, h2'), (l3, h3'), (l4, h4'), (l5, h5'), wo⟩ lo hi tab = (Bg, 0, 0)) (hR : ∀ W : World, Calls Tryz.prog 30 #[.agg #[.int .i64 l1, .int .i64 (h1'), .int .i64 l2, .int .i64 (h2'), .int .i64 l3, .int .i64 (h3'), .int .i64 l4, .int .i64 (h4'), .int .i64 l5, .int .i64 (h5'), .bool wo], .agg #[.int .i64 lo, .int .i64 hi], .int .i64 tab] W (fun e w' => ∃ v, e = .returned (.tuple #[v, .int .i64 10]) ∧ NwBlk W.heap.size Bg v w' ∧ Below W.heap.size W w')) (hl1 : Bg.panels.length = 4) (hl2 : Bg.top.length = 2) (hl3 : Bg.bottom.length = 2) :
  Calls Tryz.prog 5 #[.agg #[.int .i64 l1, .int .i64 (h1'), .int .i64 l2, .int .i64 (h2'), .int .i64 l3, .int .i64 (h3'), .int .i64 l4, .int .i64 (h4'), .int .i64 l5, .int .i64 (h5'), .bool wo], .agg #[.int .i64 lo, .int .i64 hi], .int .i64 tab] w (fun e w' => e = .returned (.bool true) ∧ Below w.heap.size w w') := by
 refine calls_fr Tryz.func5 Tryz.ntmps5 rfl rfl fun g hg => ?_
 have k0 : g 0 = .agg #[.int .i64 l1, .int .i64 (h1'), .int .i64 l2, .int .i64 (h2'), .int .i64 l3, .int .i64 (h3'), .int .i64 l4, .int .i64 (h4'), .int .i64 l5, .int .i64 (h5'), .bool wo] := hg 0
 have k1 : g 1 = .agg #[.int .i64 lo, .int .i64 hi] := hg 1
 have k2 : g 2 = .int .i64 tab := hg 2
 clear hg
 have fB0 : Below w.heap.size w w := Below.refl _ _
 refine wp_seq_k fun K1 hK1 => ?_
 refine region_dk 3 [(3, 0), (4, 1), (6, 2)] [[], [], []] (rel [bx 0 #[.int .i64 l1, .int .i64 (h1'), .int .i64 l2, .int .i64 (h2'), .int .i64 l3, .int .i64 (h3'), .int .i64 l4, .int .i64 (h4'), .int .i64 l5, .int .i64 (h5'), .bool wo] 43,
   bx 1 #[.int .i64 lo, .int .i64 hi] 26,
   is (.bool false)])
  ⟨bx_k, bx_k, is_k, trivial⟩
  ⟨fun f s W i j l m n a => opb rfl rfl (by simp [go_sem, a.e 0 k0]),
  fun f s W i j l m n a => opb rfl rfl (by simp [go_sem, a.e 1 k1]),
  fun f s W i j l m n a => opv rfl rfl (by simp [go_sem]) rfl, trivial⟩ ?_
 intro f1 s1 W1 hB1 g1 hg1
 have fB1 := hB1.f fB0
 have z1 := hB1.below.size
 obtain ⟨r1_0, br1_0⟩ := hB1.is 0
 have lr1_0 := hB1.lr 0 br1_0
 obtain ⟨r1_1, br1_1⟩ := hB1.is 1
 have lr1_1 := hB1.lr 1 br1_1
 have ne1_0_1 := hB1.nb 0 1
 refine hK1 _ _ ?_
 have k1_2 := kt hg1 2 k2
 have k1_3 := kt hg1 3 r1_0
 have k1_4 := kt hg1 4 r1_1
 have k1_6 := kt hg1 6 (hB1.is 2)
 refine wp_seq_k fun K2 hK2 => ?_
 refine region_dk 3 [(13, 0), (14, 1), (7, 2)] [[], [0], [0, 1]] (rel [is (.agg #[.int .i64 l1, .int .i64 (h1'), .int .i64 l2, .int .i64 (h2'), .int .i64 l3, .int .i64 (h3'), .int .i64 l4, .int .i64 (h4'), .int .i64 l5, .int .i64 (h5'), .bool wo]),
   is (.int .i64 0),
   is (.int .i64 0)])
  ⟨is_k, is_k, is_k, trivial⟩
  ⟨fun f s W i j l m n a => opv rfl rfl (by simp [go_sem, a.e 3 k1_3, cb br1_0 i 0, cb br1_0 i 1, cb br1_0 i 2, cb br1_0 i 3, cb br1_0 i 4, cb br1_0 i 5, cb br1_0 i 6, cb br1_0 i 7, cb br1_0 i 8, cb br1_0 i 9, cb br1_0 i 10]) rfl,
  fun f s W i j l m n a => opDo_call rfl rfl (by simp [go_sem, a.e 13 (j 0 rfl)]) (wishR_any l1 h1' l2 h2' l3 h3' l4 h4' l5 h5' wo W) ((fun e W' h => by have h1 := h.1; rw [wishR_eq, hE] at h1; exact ⟨_, h1, h.2, rfl⟩)),
  fun f s W i j l m n a => opv rfl rfl (by simp [go_sem, a.e 14 (j 1 rfl)]) rfl, trivial⟩ ?_
 intro f2 s2 W2 hB2 g2 hg2
 have fB2 := hB2.f fB1
 have z2 := hB2.below.size
 have b2_0 := hB2.b br1_0
 have b2_1 := hB2.b br1_1
 refine hK2 _ _ ?_
 have k2_2 := kt hg2 2 k1_2
 have k2_3 := kt hg2 3 k1_3
 have k2_4 := kt hg2 4 k1_4
 have k2_6 := kt hg2 6 k1_6
 have k2_7 := kt hg2 7 (hB2.is 2)
 refine wp_seq_k fun K3 hK3 => ?_
 refine wp_seq_k fun K4 hK4 => ?_
 refine region_dk 7 [(15, 0), (16, 1), (17, 2), (18, 3), (19, 4), (20, 5), (21, 6)] [[], [0], [0, 1], [0, 1, 2], [0, 1, 2, 3], [0, 1, 2, 3, 4], [0, 1, 2, 3, 4, 5]] (rel [is (.int .i64 0),
   is (.bool true),
   is (.bool true),
   is (.agg #[.int .i64 lo, .int .i64 hi]),
   is (.bool true),
   is (.bool false),
   is (.bool false)])
  ⟨is_k, is_k, is_k, is_k, is_k, is_k, is_k, trivial⟩
  ⟨fun f s W i j l m n a => opv rfl rfl (by simp [go_sem, a.e 7 k2_7]) rfl,
  fun f s W i j l m n a => opv rfl rfl (by simp [go_sem, a.e 15 (j 0 rfl)]) rfl,
  fun f s W i j l m n a => opv rfl rfl (by simp [go_sem, a.e 16 (j 1 rfl)]) rfl,
  fun f s W i j l m n a => osure rfl rfl (a.says (d := 17) rfl rfl (j 2 rfl)) (gv (by simp [go_sem, a.e 4 k2_4, cb b2_1 i 0, cb b2_1 i 1]) rfl),
  fun f s W i j l m n a => osure rfl rfl (a.says (d := 17) rfl rfl (j 2 rfl)) (wp_called (by simp [go_sem, a.e 18 (j 3 rfl)]) (spanR_any lo hi 1 10000 W) ((fun e W' h => by have h1 := h.1; rw [spanR_eq, hsp] at h1; exact ⟨_, h1, h.2, rfl⟩))),
  fun f s W i j l m n a => osure rfl rfl (a.says (d := 17) rfl rfl (j 2 rfl)) (gv (by simp [go_sem, a.e 19 (j 4 rfl)]) rfl),
  fun f s W i j l m n a => opk (c := true) rfl rfl (fun h => absurd h (by decide)) (fun _ => by simp [go_sem, a.e 17 (j 2 rfl), a.e 20 (j 5 rfl)]), trivial⟩ ?_
 intro f3 s3 W3 hB3 g3 hg3
 have fB3 := hB3.f fB2
 have z3 := hB3.below.size
 have b3_0 := hB3.b b2_0
 have b3_1 := hB3.b b2_1
 refine hK4 _ _ ?_
 have k3_2 := kt hg3 2 k2_2
 have k3_3 := kt hg3 3 k2_3
 have k3_4 := kt hg3 4 k2_4
 have k3_6 := kt hg3 6 k2_6
 have k3_7 := kt hg3 7 k2_7
 have k3_21 := kt hg3 21 (hB3.is 6)
 refine wp_cond_false ((fr_eval rfl).trans k3_21) ?_
 refine wp_skip ?_
 refine hK3 _ _ ?_
 refine wp_seq_k fun K6 hK6 => ?_
 refine wp_seq_k fun K7 hK7 => ?_
 refine region_dk 7 [(22, 0), (23, 1), (24, 2), (25, 3), (26, 4), (27, 5), (28, 6)] [[], [0], [0, 1], [0, 1, 2], [0, 1, 2, 3], [0, 1, 2, 3, 4], [0, 1, 2, 3, 4, 5]] (rel [is (.int .i64 0),
   is (.bool true),
   is (.bool true),
   is (.int .i64 tab),
   is (.bool true),
   is (.bool false),
   is (.bool false)])
  ⟨is_k, is_k, is_k, is_k, is_k, is_k, is_k, trivial⟩
  ⟨fun f s W i j l m n a => opv rfl rfl (by simp [go_sem, a.e 7 k3_7]) rfl,
  fun f s W i j l m n a => opv rfl rfl (by simp [go_sem, a.e 22 (j 0 rfl)]) rfl,
  fun f s W i j l m n a => opv rfl rfl (by simp [go_sem, a.e 23 (j 1 rfl)]) rfl,
  fun f s W i j l m n a => osure rfl rfl (a.says (d := 24) rfl rfl (j 2 rfl)) (gv (by simp [go_sem, a.e 2 k3_2]) rfl),
  fun f s W i j l m n a => osure rfl rfl (a.says (d := 24) rfl rfl (j 2 rfl)) (wp_called (by simp [go_sem, a.e 25 (j 3 rfl)]) (in_any tab 0 100 W) ((fun e W' h => by have h1 := h.1; rw [hio] at h1; exact ⟨_, h1, h.2, rfl⟩))),
  fun f s W i j l m n a => osure rfl rfl (a.says (d := 24) rfl rfl (j 2 rfl)) (gv (by simp [go_sem, a.e 26 (j 4 rfl)]) rfl),
  fun f s W i j l m n a => opk (c := true) rfl rfl (fun h => absurd h (by decide)) (fun _ => by simp [go_sem, a.e 24 (j 2 rfl), a.e 27 (j 5 rfl)]), trivial⟩ ?_
 intro f4 s4 W4 hB4 g4 hg4
 have fB4 := hB4.f fB3
 have z4 := hB4.below.size
 have b4_0 := hB4.b b3_0
 have b4_1 := hB4.b b3_1
 refine hK7 _ _ ?_
 have k4_2 := kt hg4 2 k3_2
 have k4_3 := kt hg4 3 k3_3
 have k4_4 := kt hg4 4 k3_4
 have k4_6 := kt hg4 6 k3_6
 have k4_7 := kt hg4 7 k3_7
 have k4_28 := kt hg4 28 (hB4.is 6)
 refine wp_cond_false ((fr_eval rfl).trans k4_28) ?_
 refine wp_skip ?_
 refine hK6 _ _ ?_
 refine wp_seq_k fun K9 hK9 => ?_
 refine wp_seq_k fun K10 hK10 => ?_
 refine region_dk 10 [(29, 0), (30, 1), (31, 2), (32, 3), (33, 4), (34, 5), (35, 6), (36, 7), (37, 8), (38, 9)] [[], [0], [0, 1], [0, 1, 2], [0, 1, 2, 3], [0, 1, 2], [0, 1, 2, 5], [0, 1, 2, 3, 4, 5, 6], [0, 1, 2, 3, 4, 5, 6, 7], [0, 1, 2, 3, 4, 5, 6, 7, 8]] (rel [is (.int .i64 0),
   is (.bool true),
   is (.bool true),
   is (.pointer (some ⟨(s1 1), 1, none⟩)),
   is (.int .i64 hi),
   is (.pointer (some ⟨(s1 1), 0, none⟩)),
   is (.int .i64 lo),
   is (.int .i64 (hi - lo)),
   is (.bool (decide (40 < (hi - lo)))),
   is (.bool (decide (40 < (hi - lo))))])
  ⟨is_k, is_k, is_k, is_k, is_k, is_k, is_k, is_k, is_k, is_k, trivial⟩
  ⟨fun f s W i j l m n a => opv rfl rfl (by simp [go_sem, a.e 7 k4_7]) rfl,
  fun f s W i j l m n a => opv rfl rfl (by simp [go_sem, a.e 29 (j 0 rfl)]) rfl,
  fun f s W i j l m n a => opv rfl rfl (by simp [go_sem, a.e 30 (j 1 rfl)]) rfl,
  fun f s W i j l m n a => osure rfl rfl (a.says (d := 31) rfl rfl (j 2 rfl)) (gv (by simp [go_sem, a.e 4 k4_4]) rfl),
  fun f s W i j l m n a => osure rfl rfl (a.says (d := 31) rfl rfl (j 2 rfl)) (gv (by simp [go_sem, a.e 32 (j 3 rfl), cb b4_1 i 1]) rfl),
  fun f s W i j l m n a => osure rfl rfl (a.says (d := 31) rfl rfl (j 2 rfl)) (gv (by simp [go_sem, a.e 4 k4_4]) rfl),
  fun f s W i j l m n a => osure rfl rfl (a.says (d := 31) rfl rfl (j 2 rfl)) (gv (by simp [go_sem, a.e 34 (j 5 rfl), cb b4_1 i 0]) rfl),
  fun f s W i j l m n a => osure rfl rfl (a.says (d := 31) rfl rfl (j 2 rfl)) (gv (by simp [go_sem, a.e 33 (j 4 rfl), a.e 35 (j 6 rfl), IntWalk.i64_in (hi - lo) (by omega)]) rfl),
  fun f s W i j l m n a => osure rfl rfl (a.says (d := 31) rfl rfl (j 2 rfl)) (gv (by simp [go_sem, a.e 36 (j 7 rfl)]) rfl),
  fun f s W i j l m n a => opk (c := true) rfl rfl (fun h => absurd h (by decide)) (fun _ => by simp [go_sem, a.e 31 (j 2 rfl), a.e 37 (j 8 rfl)]), trivial⟩ ?_
 intro f5 s5 W5 hB5 g5 hg5
 have fB5 := hB5.f fB4
 have z5 := hB5.below.size
 have b5_0 := hB5.b b4_0
 have b5_1 := hB5.b b4_1
 refine hK10 _ _ ?_
 have k5_2 := kt hg5 2 k4_2
 have k5_3 := kt hg5 3 k4_3
 have k5_4 := kt hg5 4 k4_4
 have k5_6 := kt hg5 6 k4_6
 have k5_7 := kt hg5 7 k4_7
 have k5_38 := kt hg5 38 (hB5.is 9)
 have hc11 : (fr 101 g5).eval (.tmp 38) = .bool false := ((fr_eval rfl).trans k5_38).trans (by rw [hf'])
 refine wp_cond_false (hc11) ?_
 refine wp_skip ?_
 refine hK9 _ _ ?_
 refine wp_seq_k fun K12 hK12 => ?_
 refine region_dk 9 [(41, 0), (42, 1), (43, 2), (44, 3), (40, 4), (45, 5), (46, 6), (47, 7), (8, 8), (9, 10), (10, 11)] [[], [], [], [0, 1, 2], [0, 1, 2, 3], [0, 1, 2, 3, 4], [0, 1, 2, 3, 4], [0, 1, 2, 3, 4], [], [0, 1, 2, 3, 4, 5, 8], [0, 1, 2, 3, 4, 5, 6, 8, 9], [0, 1, 2, 3, 4, 5, 6, 7, 8, 9, 10]] (rel [is (.agg #[.int .i64 l1, .int .i64 (h1'), .int .i64 l2, .int .i64 (h2'), .int .i64 l3, .int .i64 (h3'), .int .i64 l4, .int .i64 (h4'), .int .i64 l5, .int .i64 (h5'), .bool wo]),
   is (.agg #[.int .i64 lo, .int .i64 hi]),
   is (.int .i64 tab),
   fun v s W => ∃ x0, v = .tuple #[x0, .int .i64 0, .int .i64 0] ∧ NwBlk (s 3) (Bg) x0 W,
   fun v s W => ∃ x0, v = .tuple #[x0, .int .i64 0, .int .i64 0] ∧ NwBlk (s 3) (Bg) x0 W,
   fun v s W => NwBlk (s 3) (Bg) v W,
   is (.int .i64 0),
   is (.int .i64 0),
   bx 8 #[.int .i64 0, .slice (none) (0) (0), .int .i64 0, .slice (none) (0) (0), .slice (none) (0) (0), .int .i64 0, .bool false] 24])
  ⟨is_k, is_k, is_k, ⟨fun v k W W' hb ⟨x0, e, h0⟩ => ⟨x0, e, h0.below hb⟩, fun v s s' W e ⟨x0, e1, h0⟩ => ⟨x0, e1, (e 3 (by simp)) ▸ h0⟩⟩, ⟨fun v k W W' hb ⟨x0, e, h0⟩ => ⟨x0, e, h0.below hb⟩, fun v s s' W e h => by have h' : ∃ x0, v = .tuple #[x0, .int .i64 0, .int .i64 0] ∧ NwBlk (s 3) (Bg) x0 W := h; show ∃ x0, v = .tuple #[x0, .int .i64 0, .int .i64 0] ∧ NwBlk (s' 3) (Bg) x0 W; rw [← e 3 (by simp)]; exact h'⟩, ⟨fun v k W W' hb h => h.below hb, fun v s s' W e h => by have h' : NwBlk (s 3) (Bg) v W := h; show NwBlk (s' 3) (Bg) v W; rw [← e 3 (by simp)]; exact h'⟩, is_k, is_k, bx_k, trivial⟩
  ⟨fun f s W i j l m n a => opv rfl rfl (by simp [go_sem, a.e 3 k5_3, cb b5_0 i 0, cb b5_0 i 1, cb b5_0 i 2, cb b5_0 i 3, cb b5_0 i 4, cb b5_0 i 5, cb b5_0 i 6, cb b5_0 i 7, cb b5_0 i 8, cb b5_0 i 9, cb b5_0 i 10]) rfl,
  fun f s W i j l m n a => opv rfl rfl (by simp [go_sem, a.e 4 k5_4, cb b5_1 i 0, cb b5_1 i 1]) rfl,
  fun f s W i j l m n a => opv rfl rfl (by simp [go_sem, a.e 2 k5_2]) rfl,
  fun f s W i j l m n a => opDo_call rfl rfl (by simp [go_sem, a.e 41 (j 0 rfl), a.e 42 (j 1 rfl), a.e 43 (j 2 rfl)]) (blank_all l1 h1' l2 h2' l3 h3' l4 h4' l5 h5' wo lo hi tab W) (fun e W' h => by rw [hA] at h; obtain ⟨u, e1, h1, h2⟩ := h.1 rfl; exact ⟨_, e1, h2, u, rfl, (show NwBlk (upd s 3 W.heap.size 3) (Bg) u W' from by rw [upd_at]; exact h1)⟩),
  fun f s W i j l m n a => opv (v := (f 3)) rfl rfl (by simp [go_sem, (a.at' 44 rfl : n.tmps[44]?.getD undef = f 3)] <;> rfl) (j 3 rfl),
  fun f s W i j l m n a => by obtain ⟨x4_0, d4, p4_0⟩ := (j 4 rfl); exact opv (v := x4_0) rfl rfl (by simp [go_sem, a.e 40 d4]) p4_0,
  fun f s W i j l m n a => by obtain ⟨x4_0, d4, p4_0⟩ := (j 4 rfl); exact opv rfl rfl (by simp [go_sem, a.e 40 d4]) rfl,
  fun f s W i j l m n a => by obtain ⟨x4_0, d4, p4_0⟩ := (j 4 rfl); exact opv rfl rfl (by simp [go_sem, a.e 40 d4]) rfl,
  fun f s W i j l m n a => opb rfl rfl (by simp [go_sem]), trivial⟩ ?_
 intro f6 s6 W6 hB6 g6 hg6
 have fB6 := hB6.f fB5
 have z6 := hB6.below.size
 have b6_0 := hB6.b b5_0
 have b6_1 := hB6.b b5_1
 have la6_5_3 := hB6.from' 3 (by decide)
 obtain ⟨g34', c37', g35', c38', g36', c39', r6_5, ⟨q40', q42', q41'⟩, ⟨q43', q45', q44'⟩, ⟨q46', q48', q47'⟩⟩ := hB6.is 5
 obtain ⟨r6_8, br6_8⟩ := hB6.is 8
 have lr6_8 := hB6.lr 8 br6_8
 have oc6_5_8_0 := step_ne q40' (by omega) br6_8 rfl
 have oc6_5_8_1 := step_ne q43' (by omega) br6_8 rfl
 have oc6_5_8_2 := step_ne q46' (by omega) br6_8 rfl
 have k6_2 := kt hg6 2 k5_2
 have k6_3 := kt hg6 3 k5_3
 have k6_4 := kt hg6 4 k5_4
 have k6_6 := kt hg6 6 k5_6
 have k6_7 := kt hg6 7 k5_7
 have k6_45 := kt hg6 45 r6_5
 have k6_46 := kt hg6 46 (hB6.is 6)
 have k6_47 := kt hg6 47 (hB6.is 7)
 have k6_8 := kt hg6 8 r6_8
 obtain ⟨W7, hW7⟩ : ∃ W', W' = W6.setRow (s6 8) #[.int .i64 Bg.tab, .slice (some ⟨g34', 0, none⟩) (Bg.panels.length) (c37'), .int .i64 Bg.height, .slice (some ⟨g35', 0, none⟩) (Bg.top.length) (c38'), .slice (some ⟨g36', 0, none⟩) (Bg.bottom.length) (c39'), .int .i64 Bg.slot, .bool Bg.isOpen] := ⟨_, rfl⟩
 refine tail_skip (o := _) rfl ⟨rfl, rfl⟩ (run_seg hW7 (fr_ev k6_8) (fr_ev k6_45) br6_8 rfl rfl rfl rfl) ?_
 obtain ⟨fB7, nb7, ot7, z7⟩ := seg_facts hW7 fB6 br6_8 (by omega)
 clear hW7
 have b7_0 := ot7 _ _ (by omega) b6_0
 have b7_1 := ot7 _ _ (by omega) b6_1
 have q49' := (q40'.other ot7 q41' (by omega) z7)
 have q50' := Nat.lt_of_lt_of_le q41' z7
 have q51' := (q43'.other ot7 q44' (by omega) z7)
 have q52' := Nat.lt_of_lt_of_le q44' z7
 have q53' := (q46'.other ot7 q47' (by omega) z7)
 have q54' := Nat.lt_of_lt_of_le q47' z7
 refine tail_value (o := _) rfl rfl rfl (v := .int .i64 0) (by simp [go_sem, frv 101 k6_46]) ?_
 generalize hg8 : upd g6 9 (.int .i64 0) = g8
 have k8_2 := ku hg8 2 k6_2
 have k8_3 := ku hg8 3 k6_3
 have k8_4 := ku hg8 4 k6_4
 have k8_6 := ku hg8 6 k6_6
 have k8_7 := ku hg8 7 k6_7
 have k8_47 := ku hg8 47 k6_47
 have k8_8 := ku hg8 8 k6_8
 have k8_9 := kt hg8 9 (upd_same _ _ _)
 refine tail_value (o := _) rfl rfl rfl (v := .int .i64 0) (by simp [go_sem, frv 101 k8_47]) ?_
 generalize hg9 : upd g8 10 (.int .i64 0) = g9
 have k9_2 := ku hg9 2 k8_2
 have k9_3 := ku hg9 3 k8_3
 have k9_4 := ku hg9 4 k8_4
 have k9_6 := ku hg9 6 k8_6
 have k9_7 := ku hg9 7 k8_7
 have k9_8 := ku hg9 8 k8_8
 have k9_9 := ku hg9 9 k8_9
 have k9_10 := kt hg9 10 (upd_same _ _ _)
 refine wpOps_end ?_
 refine hK12 _ _ ?_
 refine wp_seq_k fun K13 hK13 => ?_
 refine wp_seq_k fun K14 hK14 => ?_
 refine region_dk 2 [(48, 0), (49, 1)] [[], [0]] (rel [is (.int .i64 0),
   is (.bool false)])
  ⟨is_k, is_k, trivial⟩
  ⟨fun f s W i j l m n a => opv rfl rfl (by simp [go_sem, a.e 7 k9_7]) rfl,
  fun f s W i j l m n a => opv rfl rfl (by simp [go_sem, a.e 48 (j 0 rfl)]) rfl, trivial⟩ ?_
 intro f10 s10 W10 hB10 g10 hg10
 have fB10 := hB10.f fB7
 have z10 := hB10.below.size
 have b10_0 := hB10.b b7_0
 have b10_1 := hB10.b b7_1
 have b10_2 := hB10.b nb7
 have q55' := (q49'.bw hB10)
 have q56' := (hB10.lt q50')
 have q57' := (q51'.bw hB10)
 have q58' := (hB10.lt q52')
 have q59' := (q53'.bw hB10)
 have q60' := (hB10.lt q54')
 refine hK14 _ _ ?_
 have k10_2 := kt hg10 2 k9_2
 have k10_3 := kt hg10 3 k9_3
 have k10_4 := kt hg10 4 k9_4
 have k10_6 := kt hg10 6 k9_6
 have k10_7 := kt hg10 7 k9_7
 have k10_8 := kt hg10 8 k9_8
 have k10_9 := kt hg10 9 k9_9
 have k10_10 := kt hg10 10 k9_10
 have k10_49 := kt hg10 49 (hB10.is 1)
 refine wp_cond_false ((fr_eval rfl).trans k10_49) ?_
 refine wp_skip ?_
 refine hK13 _ _ ?_
 refine wp_seq_k fun K16 hK16 => ?_
 refine region_dk 8 [(65, 0), (66, 1), (67, 2), (68, 3), (64, 4), (69, 5), (70, 6), (11, 7), (12, 9)] [[], [], [], [0, 1, 2], [0, 1, 2, 3], [0, 1, 2, 3, 4], [0, 1, 2, 3, 4], [], [0, 1, 2, 3, 4, 5, 7], [0, 1, 2, 3, 4, 5, 6, 7, 8]] (rel [is (.agg #[.int .i64 l1, .int .i64 (h1'), .int .i64 l2, .int .i64 (h2'), .int .i64 l3, .int .i64 (h3'), .int .i64 l4, .int .i64 (h4'), .int .i64 l5, .int .i64 (h5'), .bool wo]),
   is (.agg #[.int .i64 lo, .int .i64 hi]),
   is (.int .i64 tab),
   fun v s W => ∃ x0, v = .tuple #[x0, .int .i64 10] ∧ NwBlk (s 3) (Bg) x0 W,
   fun v s W => ∃ x0, v = .tuple #[x0, .int .i64 10] ∧ NwBlk (s 3) (Bg) x0 W,
   fun v s W => NwBlk (s 3) (Bg) v W,
   is (.int .i64 10),
   bx 7 #[.int .i64 0, .slice (none) (0) (0), .int .i64 0, .slice (none) (0) (0), .slice (none) (0) (0), .int .i64 0, .bool false] 24])
  ⟨is_k, is_k, is_k, ⟨fun v k W W' hb ⟨x0, e, h0⟩ => ⟨x0, e, h0.below hb⟩, fun v s s' W e ⟨x0, e1, h0⟩ => ⟨x0, e1, (e 3 (by simp)) ▸ h0⟩⟩, ⟨fun v k W W' hb ⟨x0, e, h0⟩ => ⟨x0, e, h0.below hb⟩, fun v s s' W e h => by have h' : ∃ x0, v = .tuple #[x0, .int .i64 10] ∧ NwBlk (s 3) (Bg) x0 W := h; show ∃ x0, v = .tuple #[x0, .int .i64 10] ∧ NwBlk (s' 3) (Bg) x0 W; rw [← e 3 (by simp)]; exact h'⟩, ⟨fun v k W W' hb h => h.below hb, fun v s s' W e h => by have h' : NwBlk (s 3) (Bg) v W := h; show NwBlk (s' 3) (Bg) v W; rw [← e 3 (by simp)]; exact h'⟩, is_k, bx_k, trivial⟩
  ⟨fun f s W i j l m n a => opv rfl rfl (by simp [go_sem, a.e 3 k10_3, cb b10_0 i 0, cb b10_0 i 1, cb b10_0 i 2, cb b10_0 i 3, cb b10_0 i 4, cb b10_0 i 5, cb b10_0 i 6, cb b10_0 i 7, cb b10_0 i 8, cb b10_0 i 9, cb b10_0 i 10]) rfl,
  fun f s W i j l m n a => opv rfl rfl (by simp [go_sem, a.e 4 k10_4, cb b10_1 i 0, cb b10_1 i 1]) rfl,
  fun f s W i j l m n a => opv rfl rfl (by simp [go_sem, a.e 2 k10_2]) rfl,
  fun f s W i j l m n a => opDo_call rfl rfl (by simp [go_sem, a.e 65 (j 0 rfl), a.e 66 (j 1 rfl), a.e 67 (j 2 rfl)]) (hR W) (fun e W' h => by obtain ⟨u, e1, h1, h2⟩ := h; exact ⟨_, e1, h2, u, rfl, (show NwBlk (upd s 3 W.heap.size 3) (Bg) u W' from by rw [upd_at]; exact h1)⟩),
  fun f s W i j l m n a => opv (v := (f 3)) rfl rfl (by simp [go_sem, (a.at' 68 rfl : n.tmps[68]?.getD undef = f 3)] <;> rfl) (j 3 rfl),
  fun f s W i j l m n a => by obtain ⟨x4_0, d4, p4_0⟩ := (j 4 rfl); exact opv (v := x4_0) rfl rfl (by simp [go_sem, a.e 64 d4]) p4_0,
  fun f s W i j l m n a => by obtain ⟨x4_0, d4, p4_0⟩ := (j 4 rfl); exact opv rfl rfl (by simp [go_sem, a.e 64 d4]) rfl,
  fun f s W i j l m n a => opb rfl rfl (by simp [go_sem]), trivial⟩ ?_
 intro f11 s11 W11 hB11 g11 hg11
 have fB11 := hB11.f fB10
 have z11 := hB11.below.size
 have b11_0 := hB11.b b10_0
 have b11_1 := hB11.b b10_1
 have b11_2 := hB11.b b10_2
 have q61' := (q55'.bw hB11)
 have q62' := (hB11.lt q56')
 have q63' := (q57'.bw hB11)
 have q64' := (hB11.lt q58')
 have q65' := (q59'.bw hB11)
 have q66' := (hB11.lt q60')
 have la11_5_3 := hB11.from' 3 (by decide)
 obtain ⟨g67', c70', g68', c71', g69', c72', r11_5, ⟨q73', q75', q74'⟩, ⟨q76', q78', q77'⟩, ⟨q79', q81', q80'⟩⟩ := hB11.is 5
 obtain ⟨r11_7, br11_7⟩ := hB11.is 7
 have lr11_7 := hB11.lr 7 br11_7
 have oc11_5_7_0 := step_ne q73' (by omega) br11_7 rfl
 have oc11_5_7_1 := step_ne q76' (by omega) br11_7 rfl
 have oc11_5_7_2 := step_ne q79' (by omega) br11_7 rfl
 have k11_6 := kt hg11 6 k10_6
 have k11_8 := kt hg11 8 k10_8
 have k11_9 := kt hg11 9 k10_9
 have k11_10 := kt hg11 10 k10_10
 have k11_69 := kt hg11 69 r11_5
 have k11_70 := kt hg11 70 (hB11.is 6)
 have k11_11 := kt hg11 11 r11_7
 obtain ⟨W12, hW12⟩ : ∃ W', W' = W11.setRow (s11 7) #[.int .i64 Bg.tab, .slice (some ⟨g67', 0, none⟩) (Bg.panels.length) (c70'), .int .i64 Bg.height, .slice (some ⟨g68', 0, none⟩) (Bg.top.length) (c71'), .slice (some ⟨g69', 0, none⟩) (Bg.bottom.length) (c72'), .int .i64 Bg.slot, .bool Bg.isOpen] := ⟨_, rfl⟩
 refine tail_skip (o := _) rfl ⟨rfl, rfl⟩ (run_seg hW12 (fr_ev k11_11) (fr_ev k11_69) br11_7 rfl rfl rfl rfl) ?_
 obtain ⟨fB12, nb12, ot12, z12⟩ := seg_facts hW12 fB11 br11_7 (by omega)
 clear hW12
 have b12_0 := ot12 _ _ (by omega) b11_0
 have b12_1 := ot12 _ _ (by omega) b11_1
 have b12_2 := ot12 _ _ (by omega) b11_2
 have q82' := (q61'.other ot12 q62' (by omega) z12)
 have q83' := Nat.lt_of_lt_of_le q62' z12
 have q84' := (q63'.other ot12 q64' (by omega) z12)
 have q85' := Nat.lt_of_lt_of_le q64' z12
 have q86' := (q65'.other ot12 q66' (by omega) z12)
 have q87' := Nat.lt_of_lt_of_le q66' z12
 have q88' := (q73'.other ot12 q74' (by omega) z12)
 have q89' := Nat.lt_of_lt_of_le q74' z12
 have q90' := (q76'.other ot12 q77' (by omega) z12)
 have q91' := Nat.lt_of_lt_of_le q77' z12
 have q92' := (q79'.other ot12 q80' (by omega) z12)
 have q93' := Nat.lt_of_lt_of_le q80' z12
 refine tail_value (o := _) rfl rfl rfl (v := .int .i64 10) (by simp [go_sem, frv 101 k11_70]) ?_
 generalize hg13 : upd g11 12 (.int .i64 10) = g13
 have k13_6 := ku hg13 6 k11_6
 have k13_8 := ku hg13 8 k11_8
 have k13_9 := ku hg13 9 k11_9
 have k13_10 := ku hg13 10 k11_10
 have k13_11 := ku hg13 11 k11_11
 have k13_12 := kt hg13 12 (upd_same _ _ _)
 refine wpOps_end ?_
 refine hK16 _ _ ?_
 refine wp_seq_k fun K17 hK17 => ?_
 refine wp_seq_k fun K18 hK18 => ?_
 refine region_dk 2 [(71, 0), (72, 1)] [[], [0]] (rel [is (.int .i64 10),
   is (.bool false)])
  ⟨is_k, is_k, trivial⟩
  ⟨fun f s W i j l m n a => opv rfl rfl (by simp [go_sem, a.e 12 k13_12]) rfl,
  fun f s W i j l m n a => opv rfl rfl (by simp [go_sem, a.e 71 (j 0 rfl)]) rfl, trivial⟩ ?_
 intro f14 s14 W14 hB14 g14 hg14
 have fB14 := hB14.f fB12
 have z14 := hB14.below.size
 have b14_0 := hB14.b b12_0
 have b14_1 := hB14.b b12_1
 have b14_2 := hB14.b b12_2
 have b14_3 := hB14.b nb12
 have q94' := (q82'.bw hB14)
 have q95' := (hB14.lt q83')
 have q96' := (q84'.bw hB14)
 have q97' := (hB14.lt q85')
 have q98' := (q86'.bw hB14)
 have q99' := (hB14.lt q87')
 have q100' := (q88'.bw hB14)
 have q101' := (hB14.lt q89')
 have q102' := (q90'.bw hB14)
 have q103' := (hB14.lt q91')
 have q104' := (q92'.bw hB14)
 have q105' := (hB14.lt q93')
 refine hK18 _ _ ?_
 have k14_6 := kt hg14 6 k13_6
 have k14_8 := kt hg14 8 k13_8
 have k14_9 := kt hg14 9 k13_9
 have k14_10 := kt hg14 10 k13_10
 have k14_11 := kt hg14 11 k13_11
 have k14_12 := kt hg14 12 k13_12
 have k14_72 := kt hg14 72 (hB14.is 1)
 refine wp_cond_false ((fr_eval rfl).trans k14_72) ?_
 refine wp_skip ?_
 refine hK17 _ _ ?_
 refine wp_seq_k fun K20 hK20 => ?_
 refine region_dk 15 [(87, 0), (88, 1), (89, 2), (90, 3), (91, 4), (92, 5), (93, 6), (94, 7), (95, 8), (96, 9), (97, 10), (98, 11), (99, 12), (100, 13), (6, 14)] [[], [0], [0, 1], [0, 1, 2], [0, 1, 2, 3], [0, 1, 2, 3, 4], [0, 1, 2, 3, 4, 5], [0, 1, 2, 3, 4, 5, 6], [0, 1, 2, 3, 4, 5, 6], [0, 1, 2, 3, 4, 5, 6, 7, 8], [0, 1, 2, 3, 4, 5, 6, 7, 8, 9], [0, 1, 2, 3, 4, 5, 6, 7, 8, 9, 10], [0, 1, 2, 3, 4, 5, 6, 7, 8, 9, 10, 11], [0, 1, 2, 3, 4, 5, 6, 7, 8, 9, 10, 11, 12], [0, 1, 2, 3, 4, 5, 6, 7, 8, 9, 10, 11, 12, 13]] (rel [is (.int .i64 0),
   is (.bool true),
   is (.bool true),
   is (.int .i64 0),
   is (.bool true),
   is (.bool true),
   is (.bool true),
   is (.agg #[.int .i64 Bg.tab, .slice (some ⟨g34', 0, none⟩) (Bg.panels.length) (c37'), .int .i64 Bg.height, .slice (some ⟨g35', 0, none⟩) (Bg.top.length) (c38'), .slice (some ⟨g36', 0, none⟩) (Bg.bottom.length) (c39'), .int .i64 Bg.slot, .bool Bg.isOpen]),
   is (.agg #[.int .i64 Bg.tab, .slice (some ⟨g67', 0, none⟩) (Bg.panels.length) (c70'), .int .i64 Bg.height, .slice (some ⟨g68', 0, none⟩) (Bg.top.length) (c71'), .slice (some ⟨g69', 0, none⟩) (Bg.bottom.length) (c72'), .int .i64 Bg.slot, .bool Bg.isOpen]),
   is (.bool true),
   is (.bool true),
   is (.bool true),
   is (.bool true),
   is (.bool true),
   is (.bool true)])
  ⟨is_k, is_k, is_k, is_k, is_k, is_k, is_k, is_k, is_k, is_k, is_k, is_k, is_k, is_k, is_k, trivial⟩
  ⟨fun f s W i j l m n a => opv rfl rfl (by simp [go_sem, a.e 10 k14_10]) rfl,
  fun f s W i j l m n a => opv rfl rfl (by simp [go_sem, a.e 87 (j 0 rfl)]) rfl,
  fun f s W i j l m n a => opv rfl rfl (by simp [go_sem, a.e 88 (j 1 rfl)]) rfl,
  fun f s W i j l m n a => osure rfl rfl (a.says (d := 89) rfl rfl (j 2 rfl)) (gv (by simp [go_sem, a.e 9 k14_9]) rfl),
  fun f s W i j l m n a => osure rfl rfl (a.says (d := 89) rfl rfl (j 2 rfl)) (gv (by simp [go_sem, a.e 90 (j 3 rfl)]) rfl),
  fun f s W i j l m n a => opk (c := true) rfl rfl (fun h => absurd h (by decide)) (fun _ => by simp [go_sem, a.e 89 (j 2 rfl), a.e 91 (j 4 rfl)]),
  fun f s W i j l m n a => opv rfl rfl (by simp [go_sem, a.e 92 (j 5 rfl)]) rfl,
  fun f s W i j l m n a => osure rfl rfl (a.says (d := 93) rfl rfl (j 6 rfl)) (gv (by simp [go_sem, a.e 8 k14_8, cb b14_2 i 0, cb b14_2 i 1, cb b14_2 i 2, cb b14_2 i 3, cb b14_2 i 4, cb b14_2 i 5, cb b14_2 i 6]) rfl),
  fun f s W i j l m n a => osure rfl rfl (a.says (d := 93) rfl rfl (j 6 rfl)) (gv (by simp [go_sem, a.e 11 k14_11, cb b14_3 i 0, cb b14_3 i 1, cb b14_3 i 2, cb b14_3 i 3, cb b14_3 i 4, cb b14_3 i 5, cb b14_3 i 6]) rfl),
  fun f s W i j l m n a => osure rfl rfl (a.says (d := 93) rfl rfl (j 6 rfl)) (wp_called (args := #[.agg #[.int .i64 Bg.tab, .slice (some ⟨g34', 0, none⟩) (Bg.panels.length) (c37'), .int .i64 Bg.height, .slice (some ⟨g35', 0, none⟩) (Bg.top.length) (c38'), .slice (some ⟨g36', 0, none⟩) (Bg.bottom.length) (c39'), .int .i64 Bg.slot, .bool Bg.isOpen], .agg #[.int .i64 Bg.tab, .slice (some ⟨g67', 0, none⟩) (Bg.panels.length) (c70'), .int .i64 Bg.height, .slice (some ⟨g68', 0, none⟩) (Bg.top.length) (c71'), .slice (some ⟨g69', 0, none⟩) (Bg.bottom.length) (c72'), .int .i64 Bg.slot, .bool Bg.isOpen]]) (by simp [go_sem, a.e 94 (j 7 rfl), a.e 95 (j 8 rfl)]) (same_blk (b := Bg) (d := Bg) ⟨_, _, _, _, _, _, _, _, _, rfl, ((q94'.below i (Nat.le_refl _))), ((q96'.below i (Nat.le_refl _))), ((q98'.below i (Nat.le_refl _)))⟩ ⟨_, _, _, _, _, _, _, _, _, rfl, ((q100'.below i (Nat.le_refl _))), ((q102'.below i (Nat.le_refl _))), ((q104'.below i (Nat.le_refl _)))⟩) ((fun e W' h => by have h1 := h.1; rw [sameB_self] at h1; exact ⟨_, h1, h.2, rfl⟩))),
  fun f s W i j l m n a => opk (c := true) rfl rfl (fun h => absurd h (by decide)) (fun _ => by simp [go_sem, a.e 93 (j 6 rfl), a.e 96 (j 9 rfl)]),
  fun f s W i j l m n a => opv rfl rfl (by simp [go_sem, a.e 97 (j 10 rfl)]) rfl,
  fun f s W i j l m n a => osure rfl rfl (a.says (d := 98) rfl rfl (j 11 rfl)) (gc (by simp [go_sem]) (known_any W)),
  fun f s W i j l m n a => opk (c := true) rfl rfl (fun h => absurd h (by decide)) (fun _ => by simp [go_sem, a.e 98 (j 11 rfl), a.e 99 (j 12 rfl)]),
  fun f s W i j l m n a => opv rfl rfl (by simp [go_sem, a.e 100 (j 13 rfl)]) rfl, trivial⟩ ?_
 intro f15 s15 W15 hB15 g15 hg15
 have fB15 := hB15.f fB14
 have z15 := hB15.below.size
 have b15_0 := hB15.b b14_0
 have b15_1 := hB15.b b14_1
 have b15_2 := hB15.b b14_2
 have b15_3 := hB15.b b14_3
 have q106' := (q94'.bw hB15)
 have q107' := (hB15.lt q95')
 have q108' := (q96'.bw hB15)
 have q109' := (hB15.lt q97')
 have q110' := (q98'.bw hB15)
 have q111' := (hB15.lt q99')
 have q112' := (q100'.bw hB15)
 have q113' := (hB15.lt q101')
 have q114' := (q102'.bw hB15)
 have q115' := (hB15.lt q103')
 have q116' := (q104'.bw hB15)
 have q117' := (hB15.lt q105')
 refine hK20 _ _ ?_
 have k15_6 := kt hg15 6 (hB15.is 14)
 refine wp_ret ?_
 refine leave_one (N := 101) (v := .bool true) (.inr rfl) Tryz.results5 rfl k15_6 ?_
 exact ⟨rfl, fB15⟩
theorem blanks_law (l1 h1' l2 h2' l3 h3' l4 h4' l5 h5' : Int) (wo : Bool) (lo hi tab : Int) (w : World) : Calls Tryz.prog 5 #[.agg #[.int .i64 l1, .int .i64 (h1'), .int .i64 l2, .int .i64 (h2'), .int .i64 l3, .int .i64 (h3'), .int .i64 l4, .int .i64 (h4'), .int .i64 l5, .int .i64 (h5'), .bool wo], .agg #[.int .i64 lo, .int .i64 hi], .int .i64 tab] w (fun e w' => e = .returned (.bool true) ∧ Below w.heap.size w w') := by
  by_cases hE : wishErr ⟨(l1, h1'), (l2, h2'), (l3, h3'), (l4, h4'), (l5, h5'), wo⟩ = 0
  · cases hs : isSpan (lo, hi) 1 10000 with
    | false => exact blanks_bad2 l1 h1' l2 h2' l3 h3' l4 h4' l5 h5' wo lo hi tab w hE hs (all_e2 hE hs) (by decide)
    | true =>
      have hb := isSpan_iff.1 hs
      cases hio : inB tab 0 100 with
      | false => exact blanks_bad3 l1 h1' l2 h2' l3 h3' l4 h4' l5 h5' wo lo hi tab w hE hs hio (all_e3 hE hs hio) (by decide)
      | true =>
        cases hf : decide (40 < hi - lo) with
        | true => exact blanks_far l1 h1' l2 h2' l3 h3' l4 h4' l5 h5' wo lo hi tab w hE hs hio hb hf
        | false =>
          obtain ⟨⟨Bg, c, er⟩, hB⟩ : ∃ x, blankOf ⟨(l1, h1'), (l2, h2'), (l3, h3'), (l4, h4'), (l5, h5'), wo⟩ lo hi tab = x := ⟨_, rfl⟩
          have hA := (all_e4 hE hs hio).trans hB
          have hti : 0 ≤ tab ∧ tab ≤ 100 := by have := hio; unfold inB at this; simpa using this
          obtain ⟨X, k, ⟨hx1, hx2, hx3⟩, h1, h2, hR⟩ := blankR_any ⟨(l1, h1'), (l2, h2'), (l3, h3'), (l4, h4'), (l5, h5'), wo⟩ lo hi tab (wish_in hE) hb.1 hb.2.1 hb.2.2 hti hB
          by_cases he : er = 0
          · obtain ⟨rfl, rfl, rfl⟩ := h1 he
            subst he
            exact blanks_good l1 h1' l2 h2' l3 h3' l4 h4' l5 h5' wo lo hi tab w hE hs hio hb hf X hA hR hx1 hx2 hx3
          · obtain ⟨rfl, rfl, hc⟩ := h2 he
            exact blanks_err l1 h1' l2 h2' l3 h3' l4 h4' l5 h5' wo lo hi tab w hE hs hio hb hf k X (decide_eq_true hc) (beq_self_eq_true k) ((blank_zero hB he) ▸ hA) he hR hx1 hx2 hx3
  · exact blanks_bad1 l1 h1' l2 h2' l3 h3' l4 h4' l5 h5' wo lo hi tab w _ rfl (bne_iff_ne.2 hE) (beq_self_eq_true _) (all_e1 rfl (bne_iff_ne.2 hE)) hE
end Go.Proofs.YthnediamopehfaaGreat
