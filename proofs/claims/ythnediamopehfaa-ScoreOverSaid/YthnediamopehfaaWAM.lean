/- Part of the proof: what the claim leans on. -/
import Derived.Test.YthnediamopehfaaWAL
import Derived.Test.YthnediamopehfaaWAK
import Derived.Test.YthnediamopehfaaWAB
set_option linter.unusedSimpArgs false
set_option linter.unusedVariables false
namespace Go.Proofs.Ythnediamopehfaa
open Go.RowKit
/-- A blank in bytes, with calipers, and how wide the spans of a wish are around it. -/
structure Sh where
  x0 : Int
  x1 : Int
  x2 : Int
  x3 : Int
  xh : Int
  y0 : Int
  y1 : Int
  y2 : Int
  y3 : Int
  xo : Bool
  ca : Int
  cb : Int
  v0 : Int
  v1 : Int
  v2 : Int
  v3 : Int
  v4 : Int
def shBl (x : Sh) : Bl := ⟨30, [60 + x.x0, 60 + x.x1, 60 + x.x2, 60 + x.x3], 40 + x.xh, [if x.xo = true then 0 else x.y0, if x.xo = true then 0 else x.y1], [x.y2, x.y3], 9, x.xo⟩
set_option maxRecDepth 100000 in
set_option maxHeartbeats 8000000 in
theorem sheet_blank (x0 x1 x2 x3 xh y0 y1 y2 y3 : Int) (xo : Bool) (ca cb v0 v1 v2 v3 v4 : Int) (w : World) (gx0 : 0 ≤ x0 ∧ x0 ≤ 255) (gx1 : 0 ≤ x1 ∧ x1 ≤ 255) (gx2 : 0 ≤ x2 ∧ x2 ≤ 255) (gx3 : 0 ≤ x3 ∧ x3 ≤ 255) (gxh : 0 ≤ xh ∧ xh ≤ 255) (gy0 : 0 ≤ y0 ∧ y0 ≤ 255) (gy1 : 0 ≤ y1 ∧ y1 ≤ 255) (gy2 : 0 ≤ y2 ∧ y2 ≤ 255) (gy3 : 0 ≤ y3 ∧ y3 ≤ 255) (gca : 0 ≤ ca ∧ ca ≤ 255) (gcb : 0 ≤ cb ∧ cb ≤ 255) (gv0 : 0 ≤ v0 ∧ v0 ≤ 255) (gv1 : 0 ≤ v1 ∧ v1 ≤ 255) (gv2 : 0 ≤ v2 ∧ v2 ≤ 255) (gv3 : 0 ≤ v3 ∧ v3 ≤ 255) (gv4 : 0 ≤ v4 ∧ v4 ≤ 255) :
    Calls Try.prog 24 #[.agg #[.int .u8 x0, .int .u8 x1, .int .u8 x2, .int .u8 x3, .int .u8 xh, .int .u8 y0, .int .u8 y1, .int .u8 y2, .int .u8 y3, .bool xo, .int .u8 ca, .int .u8 cb, .int .u8 v0, .int .u8 v1, .int .u8 v2, .int .u8 v3, .int .u8 v4]] w (TyBlkP (shBl ⟨x0, x1, x2, x3, xh, y0, y1, y2, y3, xo, ca, cb, v0, v1, v2, v3, v4⟩) w) := by
  refine calls_fr Try.func24 Try.ntmps24 rfl rfl fun g hg => ?_
  have k0 : g 0 = .agg #[.int .u8 x0, .int .u8 x1, .int .u8 x2, .int .u8 x3, .int .u8 xh, .int .u8 y0, .int .u8 y1, .int .u8 y2, .int .u8 y3, .bool xo, .int .u8 ca, .int .u8 cb, .int .u8 v0, .int .u8 v1, .int .u8 v2, .int .u8 v3, .int .u8 v4] := hg 0
  clear hg
  have fB0 : Below w.heap.size w w := Below.refl _ _
  refine wp_seq_k fun K1 hK1 => ?_
  refine region_dk 2 [(1, 0), (2, 1)] [[], []] (rel [bx 0 #[.int .u8 x0, .int .u8 x1, .int .u8 x2, .int .u8 x3, .int .u8 xh, .int .u8 y0, .int .u8 y1, .int .u8 y2, .int .u8 y3, .bool xo, .int .u8 ca, .int .u8 cb, .int .u8 v0, .int .u8 v1, .int .u8 v2, .int .u8 v3, .int .u8 v4] 56,
      bx 1 #[.int .i64 0, .slice (none) (0) (0), .int .i64 0, .slice (none) (0) (0), .slice (none) (0) (0), .int .i64 0, .bool false] 24])
    ⟨bx_k, bx_k, trivial⟩
    ⟨fun f s W j m p q r d => opb rfl rfl (by simp [go_sem, d.e 0 k0]),
    fun f s W j m p q r d => opb rfl rfl (by simp [go_sem]), trivial⟩ ?_
  intro f1 s1 W1 hB1 g1 hg1
  have fB1 := hB1.f fB0
  have z1 := hB1.below.size
  obtain ⟨r1_0, br1_0⟩ := hB1.is 0
  have lr1_0 := hB1.lr 0 br1_0
  obtain ⟨r1_1, br1_1⟩ := hB1.is 1
  have lr1_1 := hB1.lr 1 br1_1
  have ne1_0_1 := hB1.nb 0 1
  refine hK1 _ _ ?_
  have k1_1 := kt hg1 1 r1_0
  have k1_2 := kt hg1 2 r1_1
  refine wp_seq_k fun K2 hK2 => ?_
  refine region_dk 8 [(6, 0), (7, 1), (8, 2), (9, 3), (10, 4), (11, 5), (12, 6), (3, 7)] [[], [0], [0, 1], [0, 1, 2], [], [4], [0, 1, 2, 3, 4, 5], [], [0, 1, 2, 3, 4, 5, 6, 7]] (rel [is (.pointer (some ⟨(s1 0), 4, none⟩)),
      is (.int .u8 xh),
      is (.int .i64 xh),
      is (.int .i64 (40 + xh)),
      is (.pointer (some ⟨(s1 0), 9, none⟩)),
      is (.bool xo),
      is (.agg #[.int .i64 30, .slice (none) (0) (0), .int .i64 (40 + xh), .slice (none) (0) (0), .slice (none) (0) (0), .int .i64 9, .bool xo]),
      bx 7 #[.int .i64 0, .slice (none) (0) (0), .int .i64 0, .slice (none) (0) (0), .slice (none) (0) (0), .int .i64 0, .bool false] 24])
    ⟨is_k, is_k, is_k, is_k, is_k, is_k, is_k, bx_k, trivial⟩
    ⟨fun f s W j m p q r d => opv rfl rfl (by simp [go_sem, d.e 1 k1_1]) rfl,
    fun f s W j m p q r d => opv rfl rfl (by simp [go_sem, d.e 6 (m 0 rfl), cl (blk_below br1_0 j) 4]) rfl,
    fun f s W j m p q r d => by have cv_ := IntWalk.i64_in xh (by omega); exact opv rfl rfl (by simp [go_sem, d.e 7 (m 1 rfl), cv_]) rfl,
    fun f s W j m p q r d => opv rfl rfl (by simp [go_sem, d.e 8 (m 2 rfl), IntWalk.i64_in (40 + xh) (by omega)]) rfl,
    fun f s W j m p q r d => opv rfl rfl (by simp [go_sem, d.e 1 k1_1]) rfl,
    fun f s W j m p q r d => opv rfl rfl (by simp [go_sem, d.e 10 (m 4 rfl), cl (blk_below br1_0 j) 9]) rfl,
    fun f s W j m p q r d => opv rfl rfl (by simp [go_sem, d.e 9 (m 3 rfl), d.e 11 (m 5 rfl)]) rfl,
    fun f s W j m p q r d => opb rfl rfl (by simp [go_sem]), trivial⟩ ?_
  intro f2 s2 W2 hB2 g2 hg2
  have fB2 := hB2.f fB1
  have z2 := hB2.below.size
  have b2_0 := hB2.b br1_0
  have b2_1 := hB2.b br1_1
  obtain ⟨r2_7, br2_7⟩ := hB2.is 7
  have lr2_7 := hB2.lr 7 br2_7
  have k2_1 := kt hg2 1 k1_1
  have k2_2 := kt hg2 2 k1_2
  have k2_12 := kt hg2 12 (hB2.is 6)
  have k2_3 := kt hg2 3 r2_7
  obtain ⟨W3, hW3⟩ : ∃ W', W' = W2.setRow (s2 7) #[.int .i64 30, .slice (none) (0) (0), .int .i64 (40 + xh), .slice (none) (0) (0), .slice (none) (0) (0), .int .i64 9, .bool xo] := ⟨_, rfl⟩
  refine tail_skip (o := _) rfl ⟨rfl, rfl⟩ (run_seg hW3 (fr_ev k2_3) (fr_ev k2_12) br2_7 rfl rfl rfl rfl) ?_
  obtain ⟨fB3, nb3, ot3, z3⟩ := seg_facts hW3 fB2 br2_7 (by omega)
  clear hW3
  have b3_0 := ot3 _ _ (by omega) b2_0
  have b3_1 := ot3 _ _ (by omega) b2_1
  refine wpOps_end ?_
  refine hK2 _ _ ?_
  have ow0 : OwnV 3 1 W3.heap.size (iis []) 0 none 0 W3 := ownV_nil (Nat.le_refl _)
  refine wp_seq_k fun K3 hK3 => ?_
  refine wp_seq_k fun K4 hK4 => ?_
  refine region_dk 1 [(4, 0)] [[]] (rel [is (.int .i64 0)])
    ⟨is_k, trivial⟩
    ⟨fun f s W j m p q r d => opv rfl rfl (by simp [go_sem]) rfl, trivial⟩ ?_
  intro f4 s4 W4 hB4 g4 hg4
  have fB4 := hB4.f fB3
  have z4 := hB4.below.size
  have b4_0 := hB4.b b3_0
  have b4_1 := hB4.b b3_1
  have b4_2 := hB4.b nb3
  have q1' := (ow0.below hB4.below)
  refine hK4 _ _ ?_
  have k4_1 := kt hg4 1 k2_1
  have k4_2 := kt hg4 2 k2_2
  have k4_3 := kt hg4 3 k2_3
  have k4_4 := kt hg4 4 (hB4.is 0)
  refine wp_block ?_
  refine wp_loop_rounds 5 ?_
  rw [rounds_succ]
  refine wp_seq_k fun K5 hK5 => ?_
  refine wp_seq_k fun K6 hK6 => ?_
  refine region_dk 2 [(13, 0), (14, 1)] [[], [0]] (rel [is (.int .i64 0),
      is (.bool true)])
    ⟨is_k, is_k, trivial⟩
    ⟨fun f s W j m p q r d => opv rfl rfl (by simp [go_sem, d.e 4 k4_4]) rfl,
    fun f s W j m p q r d => opv rfl rfl (by simp [go_sem, d.e 13 (m 0 rfl)]) rfl, trivial⟩ ?_
  intro f5 s5 W5 hB5 g5 hg5
  have fB5 := hB5.f fB4
  have z5 := hB5.below.size
  have b5_0 := hB5.b b4_0
  have b5_1 := hB5.b b4_1
  have b5_2 := hB5.b b4_2
  have q2' := (q1'.below hB5.below)
  refine hK6 _ _ ?_
  have k5_1 := kt hg5 1 k4_1
  have k5_2 := kt hg5 2 k4_2
  have k5_3 := kt hg5 3 k4_3
  have k5_4 := kt hg5 4 k4_4
  have k5_14 := kt hg5 14 (hB5.is 1)
  refine wp_cond_true ((fr_eval rfl).trans k5_14) ?_
  refine wp_skip ?_
  refine hK5 _ _ ?_
  refine wp_seq_k fun K8 hK8 => ?_
  refine wp_block ?_
  refine region_dk 9 [(17, 0), (18, 1), (19, 2), (20, 3), (21, 4), (22, 5), (23, 6), (24, 7), (25, 8), (26, 9), (27, 10)] [[], [0], [], [], [2, 3], [2, 3, 4], [2, 3, 4, 5], [2, 3, 4, 5, 6], [2, 3, 4, 5, 6, 7], [0, 1, 2, 3, 4, 5, 6, 7, 8], [0, 1, 2, 3, 4, 5, 6, 7, 8, 9], [0, 1, 2, 3, 4, 5, 6, 7, 8, 9, 10]] (rel [is (.pointer (some ⟨(s2 7), 1, none⟩)),
      is (.slice (none) (0) (0)),
      is (.int .i64 0),
      is (.pointer (some ⟨(s1 0), 0, none⟩)),
      is (.pointer (some ⟨(s1 0), 0, none⟩)),
      is (.int .u8 x0),
      is (.int .i64 x0),
      is (.int .i64 (60 + x0)),
      row 8 1 #[.int .i64 (60 + x0)] 3])
    ⟨is_k, is_k, is_k, is_k, is_k, is_k, is_k, is_k, row_k, trivial⟩
    ⟨fun f s W j m p q r d => opv rfl rfl (by simp [go_sem, d.e 3 k5_3]) rfl,
    fun f s W j m p q r d => opv rfl rfl (by simp [go_sem, d.e 17 (m 0 rfl), cl (blk_below b5_2 j) 1]) rfl,
    fun f s W j m p q r d => opv rfl rfl (by simp [go_sem, d.e 4 k5_4]) rfl,
    fun f s W j m p q r d => opv rfl rfl (by simp [go_sem, d.e 1 k5_1]) rfl,
    fun f s W j m p q r d => opv rfl rfl (by simp [go_sem, d.e 20 (m 3 rfl), d.e 19 (m 2 rfl)]) rfl,
    fun f s W j m p q r d => opv rfl rfl (by simp [go_sem, d.e 21 (m 4 rfl), cl (blk_below b5_0 j) 0]) rfl,
    fun f s W j m p q r d => by have cv_ := IntWalk.i64_in x0 (by omega); exact opv rfl rfl (by simp [go_sem, d.e 22 (m 5 rfl), cv_]) rfl,
    fun f s W j m p q r d => opv rfl rfl (by simp [go_sem, d.e 23 (m 6 rfl), IntWalk.i64_in (60 + x0) (by omega)]) rfl,
    fun f s W j m p q r d => opr rfl rfl (by simp [go_sem, d.e 24 (m 7 rfl)]), trivial⟩ ?_
  intro f6 s6 W6 hB6 g6 hg6
  have fB6 := hB6.f fB5
  have z6 := hB6.below.size
  have b6_0 := hB6.b b5_0
  have b6_1 := hB6.b b5_1
  have b6_2 := hB6.b b5_2
  have q3' := (q2'.below hB6.below)
  obtain ⟨r6_8, br6_8⟩ := hB6.is 8
  have lr6_8 := hB6.lr 8 br6_8
  have k6_1 := kt hg6 1 k5_1
  have k6_2 := kt hg6 2 k5_2
  have k6_3 := kt hg6 3 k5_3
  have k6_4 := kt hg6 4 k5_4
  have k6_14 := kt hg6 14 k5_14
  have k6_18 := kt hg6 18 (hB6.is 1)
  have k6_25 := kt hg6 25 r6_8
  obtain ⟨ga7, ca7, W7, ra7, ow7, ot7, z7, fB7⟩ := growV_tail 22 22 3 1 8 (.int .i64 0) Try.underlying22 (by kernel_rfl) rfl (c := 0) (iis ([60 + x0])) (1) (k := 1) (c' := 1) [.int .i64 (60 + x0)] fB6 q3' rfl rfl (fB3).size rfl rfl (cells_at br6_8) (by decide)
  refine tail_value2 (o := _) rfl rfl rfl (run_appendOp (fr_ev k6_18) (fr_ev k6_25) ra7) ?_
  have b7_0 := ot7 _ _ (by omega) b6_0
  have b7_1 := ot7 _ _ (by omega) b6_1
  have b7_2 := ot7 _ _ (by omega) b6_2
  generalize hg7 : upd g6 26 (.slice (some ⟨ga7, 0, none⟩) (1) (ca7)) = g7
  have k7_1 := ku hg7 1 k6_1
  have k7_2 := ku hg7 2 k6_2
  have k7_3 := ku hg7 3 k6_3
  have k7_4 := ku hg7 4 k6_4
  have k7_14 := ku hg7 14 k6_14
  have k7_18 := ku hg7 18 k6_18
  have k7_25 := ku hg7 25 k6_25
  have k7_26 := kt hg7 26 (upd_same _ _ _)
  refine tail_value (o := _) rfl rfl rfl (v := .pointer (some ⟨(s2 7), 1, none⟩)) (by simp [go_sem, frv 58 k7_3]) ?_
  generalize hg8 : upd g7 27 (.pointer (some ⟨(s2 7), 1, none⟩)) = g8
  have k8_1 := ku hg8 1 k7_1
  have k8_2 := ku hg8 2 k7_2
  have k8_3 := ku hg8 3 k7_3
  have k8_4 := ku hg8 4 k7_4
  have k8_14 := ku hg8 14 k7_14
  have k8_18 := ku hg8 18 k7_18
  have k8_25 := ku hg8 25 k7_25
  have k8_26 := ku hg8 26 k7_26
  have k8_27 := kt hg8 27 (upd_same _ _ _)
  obtain ⟨W9, hW9⟩ : ∃ W', W' = W7.setRow (s2 7) #[.int .i64 30, .slice (some ⟨ga7, 0, none⟩) (1) (ca7), .int .i64 (40 + xh), .slice (none) (0) (0), .slice (none) (0) (0), .int .i64 9, .bool xo] := ⟨_, rfl⟩
  refine tail_skip (o := _) rfl ⟨rfl, rfl⟩ (run_seg hW9 (fr_ev k8_27) (fr_ev k8_26) b7_2 rfl rfl rfl rfl) ?_
  obtain ⟨fB9, nb9, ot9, z9⟩ := seg_facts hW9 fB7 b7_2 (by omega)
  clear hW9
  have b9_0 := ot9 _ _ (by omega) b7_0
  have b9_1 := ot9 _ _ (by omega) b7_1
  have q4' := ow7.otherV ot9 (by omega) z9
  refine wpOps_end ?_
  refine inBlock_normal ?_
  refine hK8 _ _ ?_
  refine region_dk 3 [(15, 0), (16, 1), (4, 2)] [[], [0], [0, 1]] (rel [is (.int .i64 0),
      is (.int .i64 1),
      is (.int .i64 1)])
    ⟨is_k, is_k, is_k, trivial⟩
    ⟨fun f s W j m p q r d => opv rfl rfl (by simp [go_sem, d.e 4 ((q 2 4 rfl rfl).trans k8_4)]) rfl,
    fun f s W j m p q r d => opv rfl rfl (by simp [go_sem, d.e 15 (m 0 rfl), IntWalk.i64_in (1) (by omega)]) rfl,
    fun f s W j m p q r d => opv rfl rfl (by simp [go_sem, d.e 16 (m 1 rfl)]) rfl, trivial⟩ ?_
  intro f10 s10 W10 hB10 g10 hg10
  have fB10 := hB10.f fB9
  have z10 := hB10.below.size
  have b10_0 := hB10.b b9_0
  have b10_1 := hB10.b b9_1
  have b10_2 := hB10.b nb9
  have q5' := (q4'.below hB10.below)
  refine wpOps_end ?_
  have k10_1 := kt hg10 1 k8_1
  have k10_2 := kt hg10 2 k8_2
  have k10_3 := kt hg10 3 k8_3
  have k10_14 := kt hg10 14 k8_14
  have k10_18 := kt hg10 18 k8_18
  have k10_25 := kt hg10 25 k8_25
  have k10_26 := kt hg10 26 k8_26
  have k10_27 := kt hg10 27 k8_27
  have k10_4 := kt hg10 4 (hB10.is 2)
  refine then_normal ?_
  rw [rounds_succ]
  refine wp_seq_k fun K9 hK9 => ?_
  refine wp_seq_k fun K10 hK10 => ?_
  refine region_dk 2 [(13, 0), (14, 1)] [[], [0]] (rel [is (.int .i64 1),
      is (.bool true)])
    ⟨is_k, is_k, trivial⟩
    ⟨fun f s W j m p q r d => opv rfl rfl (by simp [go_sem, d.e 4 k10_4]) rfl,
    fun f s W j m p q r d => opv rfl rfl (by simp [go_sem, d.e 13 (m 0 rfl)]) rfl, trivial⟩ ?_
  intro f11 s11 W11 hB11 g11 hg11
  have fB11 := hB11.f fB10
  have z11 := hB11.below.size
  have b11_0 := hB11.b b10_0
  have b11_1 := hB11.b b10_1
  have b11_2 := hB11.b b10_2
  have q6' := (q5'.below hB11.below)
  refine hK10 _ _ ?_
  have k11_1 := kt hg11 1 k10_1
  have k11_2 := kt hg11 2 k10_2
  have k11_3 := kt hg11 3 k10_3
  have k11_18 := kt hg11 18 k10_18
  have k11_25 := kt hg11 25 k10_25
  have k11_26 := kt hg11 26 k10_26
  have k11_27 := kt hg11 27 k10_27
  have k11_4 := kt hg11 4 k10_4
  have k11_14 := kt hg11 14 (hB11.is 1)
  refine wp_cond_true ((fr_eval rfl).trans k11_14) ?_
  refine wp_skip ?_
  refine hK9 _ _ ?_
  refine wp_seq_k fun K12 hK12 => ?_
  refine wp_block ?_
  refine region_dk 9 [(17, 0), (18, 1), (19, 2), (20, 3), (21, 4), (22, 5), (23, 6), (24, 7), (25, 8), (26, 9), (27, 10)] [[], [0], [], [], [2, 3], [2, 3, 4], [2, 3, 4, 5], [2, 3, 4, 5, 6], [2, 3, 4, 5, 6, 7], [0, 1, 2, 3, 4, 5, 6, 7, 8], [0, 1, 2, 3, 4, 5, 6, 7, 8, 9], [0, 1, 2, 3, 4, 5, 6, 7, 8, 9, 10]] (rel [is (.pointer (some ⟨(s2 7), 1, none⟩)),
      is (.slice (some ⟨ga7, 0, none⟩) (1) (ca7)),
      is (.int .i64 1),
      is (.pointer (some ⟨(s1 0), 0, none⟩)),
      is (.pointer (some ⟨(s1 0), 1, none⟩)),
      is (.int .u8 x1),
      is (.int .i64 x1),
      is (.int .i64 (60 + x1)),
      row 8 1 #[.int .i64 (60 + x1)] 3])
    ⟨is_k, is_k, is_k, is_k, is_k, is_k, is_k, is_k, row_k, trivial⟩
    ⟨fun f s W j m p q r d => opv rfl rfl (by simp [go_sem, d.e 3 k11_3]) rfl,
    fun f s W j m p q r d => opv rfl rfl (by simp [go_sem, d.e 17 (m 0 rfl), cl (blk_below b11_2 j) 1]) rfl,
    fun f s W j m p q r d => opv rfl rfl (by simp [go_sem, d.e 4 k11_4]) rfl,
    fun f s W j m p q r d => opv rfl rfl (by simp [go_sem, d.e 1 k11_1]) rfl,
    fun f s W j m p q r d => opv rfl rfl (by simp [go_sem, d.e 20 (m 3 rfl), d.e 19 (m 2 rfl)]) rfl,
    fun f s W j m p q r d => opv rfl rfl (by simp [go_sem, d.e 21 (m 4 rfl), cl (blk_below b11_0 j) 1]) rfl,
    fun f s W j m p q r d => by have cv_ := IntWalk.i64_in x1 (by omega); exact opv rfl rfl (by simp [go_sem, d.e 22 (m 5 rfl), cv_]) rfl,
    fun f s W j m p q r d => opv rfl rfl (by simp [go_sem, d.e 23 (m 6 rfl), IntWalk.i64_in (60 + x1) (by omega)]) rfl,
    fun f s W j m p q r d => opr rfl rfl (by simp [go_sem, d.e 24 (m 7 rfl)]), trivial⟩ ?_
  intro f12 s12 W12 hB12 g12 hg12
  have fB12 := hB12.f fB11
  have z12 := hB12.below.size
  have b12_0 := hB12.b b11_0
  have b12_1 := hB12.b b11_1
  have b12_2 := hB12.b b11_2
  have q7' := (q6'.below hB12.below)
  obtain ⟨r12_8, br12_8⟩ := hB12.is 8
  have lr12_8 := hB12.lr 8 br12_8
  have k12_1 := kt hg12 1 k11_1
  have k12_2 := kt hg12 2 k11_2
  have k12_3 := kt hg12 3 k11_3
  have k12_4 := kt hg12 4 k11_4
  have k12_14 := kt hg12 14 k11_14
  have k12_18 := kt hg12 18 (hB12.is 1)
  have k12_25 := kt hg12 25 r12_8
  obtain ⟨ga13, ca13, W13, ra13, ow13, ot13, z13, fB13⟩ := growV_tail 22 22 3 1 8 (.int .i64 0) Try.underlying22 (by kernel_rfl) rfl (c := ca7) (iis ([60 + x0, 60 + x1])) (2) (k := 1) (c' := 1) [.int .i64 (60 + x1)] fB12 q7' rfl rfl (fB3).size rfl rfl (cells_at br12_8) (by decide)
  refine tail_value2 (o := _) rfl rfl rfl (run_appendOp (fr_ev k12_18) (fr_ev k12_25) ra13) ?_
  have b13_0 := ot13 _ _ (by omega) b12_0
  have b13_1 := ot13 _ _ (by omega) b12_1
  have b13_2 := ot13 _ _ (by omega) b12_2
  generalize hg13 : upd g12 26 (.slice (some ⟨ga13, 0, none⟩) (2) (ca13)) = g13
  have k13_1 := ku hg13 1 k12_1
  have k13_2 := ku hg13 2 k12_2
  have k13_3 := ku hg13 3 k12_3
  have k13_4 := ku hg13 4 k12_4
  have k13_14 := ku hg13 14 k12_14
  have k13_18 := ku hg13 18 k12_18
  have k13_25 := ku hg13 25 k12_25
  have k13_26 := kt hg13 26 (upd_same _ _ _)
  refine tail_value (o := _) rfl rfl rfl (v := .pointer (some ⟨(s2 7), 1, none⟩)) (by simp [go_sem, frv 58 k13_3]) ?_
  generalize hg14 : upd g13 27 (.pointer (some ⟨(s2 7), 1, none⟩)) = g14
  have k14_1 := ku hg14 1 k13_1
  have k14_2 := ku hg14 2 k13_2
  have k14_3 := ku hg14 3 k13_3
  have k14_4 := ku hg14 4 k13_4
  have k14_14 := ku hg14 14 k13_14
  have k14_18 := ku hg14 18 k13_18
  have k14_25 := ku hg14 25 k13_25
  have k14_26 := ku hg14 26 k13_26
  have k14_27 := kt hg14 27 (upd_same _ _ _)
  obtain ⟨W15, hW15⟩ : ∃ W', W' = W13.setRow (s2 7) #[.int .i64 30, .slice (some ⟨ga13, 0, none⟩) (2) (ca13), .int .i64 (40 + xh), .slice (none) (0) (0), .slice (none) (0) (0), .int .i64 9, .bool xo] := ⟨_, rfl⟩
  refine tail_skip (o := _) rfl ⟨rfl, rfl⟩ (run_seg hW15 (fr_ev k14_27) (fr_ev k14_26) b13_2 rfl rfl rfl rfl) ?_
  obtain ⟨fB15, nb15, ot15, z15⟩ := seg_facts hW15 fB13 b13_2 (by omega)
  clear hW15
  have b15_0 := ot15 _ _ (by omega) b13_0
  have b15_1 := ot15 _ _ (by omega) b13_1
  have q8' := ow13.otherV ot15 (by omega) z15
  refine wpOps_end ?_
  refine inBlock_normal ?_
  refine hK12 _ _ ?_
  refine region_dk 3 [(15, 0), (16, 1), (4, 2)] [[], [0], [0, 1]] (rel [is (.int .i64 1),
      is (.int .i64 2),
      is (.int .i64 2)])
    ⟨is_k, is_k, is_k, trivial⟩
    ⟨fun f s W j m p q r d => opv rfl rfl (by simp [go_sem, d.e 4 ((q 2 4 rfl rfl).trans k14_4)]) rfl,
    fun f s W j m p q r d => opv rfl rfl (by simp [go_sem, d.e 15 (m 0 rfl), IntWalk.i64_in (2) (by omega)]) rfl,
    fun f s W j m p q r d => opv rfl rfl (by simp [go_sem, d.e 16 (m 1 rfl)]) rfl, trivial⟩ ?_
  intro f16 s16 W16 hB16 g16 hg16
  have fB16 := hB16.f fB15
  have z16 := hB16.below.size
  have b16_0 := hB16.b b15_0
  have b16_1 := hB16.b b15_1
  have b16_2 := hB16.b nb15
  have q9' := (q8'.below hB16.below)
  refine wpOps_end ?_
  have k16_1 := kt hg16 1 k14_1
  have k16_2 := kt hg16 2 k14_2
  have k16_3 := kt hg16 3 k14_3
  have k16_14 := kt hg16 14 k14_14
  have k16_18 := kt hg16 18 k14_18
  have k16_25 := kt hg16 25 k14_25
  have k16_26 := kt hg16 26 k14_26
  have k16_27 := kt hg16 27 k14_27
  have k16_4 := kt hg16 4 (hB16.is 2)
  refine then_normal ?_
  rw [rounds_succ]
  refine wp_seq_k fun K13 hK13 => ?_
  refine wp_seq_k fun K14 hK14 => ?_
  refine region_dk 2 [(13, 0), (14, 1)] [[], [0]] (rel [is (.int .i64 2),
      is (.bool true)])
    ⟨is_k, is_k, trivial⟩
    ⟨fun f s W j m p q r d => opv rfl rfl (by simp [go_sem, d.e 4 k16_4]) rfl,
    fun f s W j m p q r d => opv rfl rfl (by simp [go_sem, d.e 13 (m 0 rfl)]) rfl, trivial⟩ ?_
  intro f17 s17 W17 hB17 g17 hg17
  have fB17 := hB17.f fB16
  have z17 := hB17.below.size
  have b17_0 := hB17.b b16_0
  have b17_1 := hB17.b b16_1
  have b17_2 := hB17.b b16_2
  have q10' := (q9'.below hB17.below)
  refine hK14 _ _ ?_
  have k17_1 := kt hg17 1 k16_1
  have k17_2 := kt hg17 2 k16_2
  have k17_3 := kt hg17 3 k16_3
  have k17_18 := kt hg17 18 k16_18
  have k17_25 := kt hg17 25 k16_25
  have k17_26 := kt hg17 26 k16_26
  have k17_27 := kt hg17 27 k16_27
  have k17_4 := kt hg17 4 k16_4
  have k17_14 := kt hg17 14 (hB17.is 1)
  refine wp_cond_true ((fr_eval rfl).trans k17_14) ?_
  refine wp_skip ?_
  refine hK13 _ _ ?_
  refine wp_seq_k fun K16 hK16 => ?_
  refine wp_block ?_
  refine region_dk 9 [(17, 0), (18, 1), (19, 2), (20, 3), (21, 4), (22, 5), (23, 6), (24, 7), (25, 8), (26, 9), (27, 10)] [[], [0], [], [], [2, 3], [2, 3, 4], [2, 3, 4, 5], [2, 3, 4, 5, 6], [2, 3, 4, 5, 6, 7], [0, 1, 2, 3, 4, 5, 6, 7, 8], [0, 1, 2, 3, 4, 5, 6, 7, 8, 9], [0, 1, 2, 3, 4, 5, 6, 7, 8, 9, 10]] (rel [is (.pointer (some ⟨(s2 7), 1, none⟩)),
      is (.slice (some ⟨ga13, 0, none⟩) (2) (ca13)),
      is (.int .i64 2),
      is (.pointer (some ⟨(s1 0), 0, none⟩)),
      is (.pointer (some ⟨(s1 0), 2, none⟩)),
      is (.int .u8 x2),
      is (.int .i64 x2),
      is (.int .i64 (60 + x2)),
      row 8 1 #[.int .i64 (60 + x2)] 3])
    ⟨is_k, is_k, is_k, is_k, is_k, is_k, is_k, is_k, row_k, trivial⟩
    ⟨fun f s W j m p q r d => opv rfl rfl (by simp [go_sem, d.e 3 k17_3]) rfl,
    fun f s W j m p q r d => opv rfl rfl (by simp [go_sem, d.e 17 (m 0 rfl), cl (blk_below b17_2 j) 1]) rfl,
    fun f s W j m p q r d => opv rfl rfl (by simp [go_sem, d.e 4 k17_4]) rfl,
    fun f s W j m p q r d => opv rfl rfl (by simp [go_sem, d.e 1 k17_1]) rfl,
    fun f s W j m p q r d => opv rfl rfl (by simp [go_sem, d.e 20 (m 3 rfl), d.e 19 (m 2 rfl)]) rfl,
    fun f s W j m p q r d => opv rfl rfl (by simp [go_sem, d.e 21 (m 4 rfl), cl (blk_below b17_0 j) 2]) rfl,
    fun f s W j m p q r d => by have cv_ := IntWalk.i64_in x2 (by omega); exact opv rfl rfl (by simp [go_sem, d.e 22 (m 5 rfl), cv_]) rfl,
    fun f s W j m p q r d => opv rfl rfl (by simp [go_sem, d.e 23 (m 6 rfl), IntWalk.i64_in (60 + x2) (by omega)]) rfl,
    fun f s W j m p q r d => opr rfl rfl (by simp [go_sem, d.e 24 (m 7 rfl)]), trivial⟩ ?_
  intro f18 s18 W18 hB18 g18 hg18
  have fB18 := hB18.f fB17
  have z18 := hB18.below.size
  have b18_0 := hB18.b b17_0
  have b18_1 := hB18.b b17_1
  have b18_2 := hB18.b b17_2
  have q11' := (q10'.below hB18.below)
  obtain ⟨r18_8, br18_8⟩ := hB18.is 8
  have lr18_8 := hB18.lr 8 br18_8
  have k18_1 := kt hg18 1 k17_1
  have k18_2 := kt hg18 2 k17_2
  have k18_3 := kt hg18 3 k17_3
  have k18_4 := kt hg18 4 k17_4
  have k18_14 := kt hg18 14 k17_14
  have k18_18 := kt hg18 18 (hB18.is 1)
  have k18_25 := kt hg18 25 r18_8
  obtain ⟨ga19, ca19, W19, ra19, ow19, ot19, z19, fB19⟩ := growV_tail 22 22 3 1 8 (.int .i64 0) Try.underlying22 (by kernel_rfl) rfl (c := ca13) (iis ([60 + x0, 60 + x1, 60 + x2])) (3) (k := 1) (c' := 1) [.int .i64 (60 + x2)] fB18 q11' rfl rfl (fB3).size rfl rfl (cells_at br18_8) (by decide)
  refine tail_value2 (o := _) rfl rfl rfl (run_appendOp (fr_ev k18_18) (fr_ev k18_25) ra19) ?_
  have b19_0 := ot19 _ _ (by omega) b18_0
  have b19_1 := ot19 _ _ (by omega) b18_1
  have b19_2 := ot19 _ _ (by omega) b18_2
  generalize hg19 : upd g18 26 (.slice (some ⟨ga19, 0, none⟩) (3) (ca19)) = g19
  have k19_1 := ku hg19 1 k18_1
  have k19_2 := ku hg19 2 k18_2
  have k19_3 := ku hg19 3 k18_3
  have k19_4 := ku hg19 4 k18_4
  have k19_14 := ku hg19 14 k18_14
  have k19_18 := ku hg19 18 k18_18
  have k19_25 := ku hg19 25 k18_25
  have k19_26 := kt hg19 26 (upd_same _ _ _)
  refine tail_value (o := _) rfl rfl rfl (v := .pointer (some ⟨(s2 7), 1, none⟩)) (by simp [go_sem, frv 58 k19_3]) ?_
  generalize hg20 : upd g19 27 (.pointer (some ⟨(s2 7), 1, none⟩)) = g20
  have k20_1 := ku hg20 1 k19_1
  have k20_2 := ku hg20 2 k19_2
  have k20_3 := ku hg20 3 k19_3
  have k20_4 := ku hg20 4 k19_4
  have k20_14 := ku hg20 14 k19_14
  have k20_18 := ku hg20 18 k19_18
  have k20_25 := ku hg20 25 k19_25
  have k20_26 := ku hg20 26 k19_26
  have k20_27 := kt hg20 27 (upd_same _ _ _)
  obtain ⟨W21, hW21⟩ : ∃ W', W' = W19.setRow (s2 7) #[.int .i64 30, .slice (some ⟨ga19, 0, none⟩) (3) (ca19), .int .i64 (40 + xh), .slice (none) (0) (0), .slice (none) (0) (0), .int .i64 9, .bool xo] := ⟨_, rfl⟩
  refine tail_skip (o := _) rfl ⟨rfl, rfl⟩ (run_seg hW21 (fr_ev k20_27) (fr_ev k20_26) b19_2 rfl rfl rfl rfl) ?_
  obtain ⟨fB21, nb21, ot21, z21⟩ := seg_facts hW21 fB19 b19_2 (by omega)
  clear hW21
  have b21_0 := ot21 _ _ (by omega) b19_0
  have b21_1 := ot21 _ _ (by omega) b19_1
  have q12' := ow19.otherV ot21 (by omega) z21
  refine wpOps_end ?_
  refine inBlock_normal ?_
  refine hK16 _ _ ?_
  refine region_dk 3 [(15, 0), (16, 1), (4, 2)] [[], [0], [0, 1]] (rel [is (.int .i64 2),
      is (.int .i64 3),
      is (.int .i64 3)])
    ⟨is_k, is_k, is_k, trivial⟩
    ⟨fun f s W j m p q r d => opv rfl rfl (by simp [go_sem, d.e 4 ((q 2 4 rfl rfl).trans k20_4)]) rfl,
    fun f s W j m p q r d => opv rfl rfl (by simp [go_sem, d.e 15 (m 0 rfl), IntWalk.i64_in (3) (by omega)]) rfl,
    fun f s W j m p q r d => opv rfl rfl (by simp [go_sem, d.e 16 (m 1 rfl)]) rfl, trivial⟩ ?_
  intro f22 s22 W22 hB22 g22 hg22
  have fB22 := hB22.f fB21
  have z22 := hB22.below.size
  have b22_0 := hB22.b b21_0
  have b22_1 := hB22.b b21_1
  have b22_2 := hB22.b nb21
  have q13' := (q12'.below hB22.below)
  refine wpOps_end ?_
  have k22_1 := kt hg22 1 k20_1
  have k22_2 := kt hg22 2 k20_2
  have k22_3 := kt hg22 3 k20_3
  have k22_14 := kt hg22 14 k20_14
  have k22_18 := kt hg22 18 k20_18
  have k22_25 := kt hg22 25 k20_25
  have k22_26 := kt hg22 26 k20_26
  have k22_27 := kt hg22 27 k20_27
  have k22_4 := kt hg22 4 (hB22.is 2)
  refine then_normal ?_
  rw [rounds_succ]
  refine wp_seq_k fun K17 hK17 => ?_
  refine wp_seq_k fun K18 hK18 => ?_
  refine region_dk 2 [(13, 0), (14, 1)] [[], [0]] (rel [is (.int .i64 3),
      is (.bool true)])
    ⟨is_k, is_k, trivial⟩
    ⟨fun f s W j m p q r d => opv rfl rfl (by simp [go_sem, d.e 4 k22_4]) rfl,
    fun f s W j m p q r d => opv rfl rfl (by simp [go_sem, d.e 13 (m 0 rfl)]) rfl, trivial⟩ ?_
  intro f23 s23 W23 hB23 g23 hg23
  have fB23 := hB23.f fB22
  have z23 := hB23.below.size
  have b23_0 := hB23.b b22_0
  have b23_1 := hB23.b b22_1
  have b23_2 := hB23.b b22_2
  have q14' := (q13'.below hB23.below)
  refine hK18 _ _ ?_
  have k23_1 := kt hg23 1 k22_1
  have k23_2 := kt hg23 2 k22_2
  have k23_3 := kt hg23 3 k22_3
  have k23_18 := kt hg23 18 k22_18
  have k23_25 := kt hg23 25 k22_25
  have k23_26 := kt hg23 26 k22_26
  have k23_27 := kt hg23 27 k22_27
  have k23_4 := kt hg23 4 k22_4
  have k23_14 := kt hg23 14 (hB23.is 1)
  refine wp_cond_true ((fr_eval rfl).trans k23_14) ?_
  refine wp_skip ?_
  refine hK17 _ _ ?_
  refine wp_seq_k fun K20 hK20 => ?_
  refine wp_block ?_
  refine region_dk 9 [(17, 0), (18, 1), (19, 2), (20, 3), (21, 4), (22, 5), (23, 6), (24, 7), (25, 8), (26, 9), (27, 10)] [[], [0], [], [], [2, 3], [2, 3, 4], [2, 3, 4, 5], [2, 3, 4, 5, 6], [2, 3, 4, 5, 6, 7], [0, 1, 2, 3, 4, 5, 6, 7, 8], [0, 1, 2, 3, 4, 5, 6, 7, 8, 9], [0, 1, 2, 3, 4, 5, 6, 7, 8, 9, 10]] (rel [is (.pointer (some ⟨(s2 7), 1, none⟩)),
      is (.slice (some ⟨ga19, 0, none⟩) (3) (ca19)),
      is (.int .i64 3),
      is (.pointer (some ⟨(s1 0), 0, none⟩)),
      is (.pointer (some ⟨(s1 0), 3, none⟩)),
      is (.int .u8 x3),
      is (.int .i64 x3),
      is (.int .i64 (60 + x3)),
      row 8 1 #[.int .i64 (60 + x3)] 3])
    ⟨is_k, is_k, is_k, is_k, is_k, is_k, is_k, is_k, row_k, trivial⟩
    ⟨fun f s W j m p q r d => opv rfl rfl (by simp [go_sem, d.e 3 k23_3]) rfl,
    fun f s W j m p q r d => opv rfl rfl (by simp [go_sem, d.e 17 (m 0 rfl), cl (blk_below b23_2 j) 1]) rfl,
    fun f s W j m p q r d => opv rfl rfl (by simp [go_sem, d.e 4 k23_4]) rfl,
    fun f s W j m p q r d => opv rfl rfl (by simp [go_sem, d.e 1 k23_1]) rfl,
    fun f s W j m p q r d => opv rfl rfl (by simp [go_sem, d.e 20 (m 3 rfl), d.e 19 (m 2 rfl)]) rfl,
    fun f s W j m p q r d => opv rfl rfl (by simp [go_sem, d.e 21 (m 4 rfl), cl (blk_below b23_0 j) 3]) rfl,
    fun f s W j m p q r d => by have cv_ := IntWalk.i64_in x3 (by omega); exact opv rfl rfl (by simp [go_sem, d.e 22 (m 5 rfl), cv_]) rfl,
    fun f s W j m p q r d => opv rfl rfl (by simp [go_sem, d.e 23 (m 6 rfl), IntWalk.i64_in (60 + x3) (by omega)]) rfl,
    fun f s W j m p q r d => opr rfl rfl (by simp [go_sem, d.e 24 (m 7 rfl)]), trivial⟩ ?_
  intro f24 s24 W24 hB24 g24 hg24
  have fB24 := hB24.f fB23
  have z24 := hB24.below.size
  have b24_0 := hB24.b b23_0
  have b24_1 := hB24.b b23_1
  have b24_2 := hB24.b b23_2
  have q15' := (q14'.below hB24.below)
  obtain ⟨r24_8, br24_8⟩ := hB24.is 8
  have lr24_8 := hB24.lr 8 br24_8
  have k24_1 := kt hg24 1 k23_1
  have k24_2 := kt hg24 2 k23_2
  have k24_3 := kt hg24 3 k23_3
  have k24_4 := kt hg24 4 k23_4
  have k24_14 := kt hg24 14 k23_14
  have k24_18 := kt hg24 18 (hB24.is 1)
  have k24_25 := kt hg24 25 r24_8
  obtain ⟨ga25, ca25, W25, ra25, ow25, ot25, z25, fB25⟩ := growV_tail 22 22 3 1 8 (.int .i64 0) Try.underlying22 (by kernel_rfl) rfl (c := ca19) (iis ([60 + x0, 60 + x1, 60 + x2, 60 + x3])) (4) (k := 1) (c' := 1) [.int .i64 (60 + x3)] fB24 q15' rfl rfl (fB3).size rfl rfl (cells_at br24_8) (by decide)
  refine tail_value2 (o := _) rfl rfl rfl (run_appendOp (fr_ev k24_18) (fr_ev k24_25) ra25) ?_
  have b25_0 := ot25 _ _ (by omega) b24_0
  have b25_1 := ot25 _ _ (by omega) b24_1
  have b25_2 := ot25 _ _ (by omega) b24_2
  generalize hg25 : upd g24 26 (.slice (some ⟨ga25, 0, none⟩) (4) (ca25)) = g25
  have k25_1 := ku hg25 1 k24_1
  have k25_2 := ku hg25 2 k24_2
  have k25_3 := ku hg25 3 k24_3
  have k25_4 := ku hg25 4 k24_4
  have k25_14 := ku hg25 14 k24_14
  have k25_18 := ku hg25 18 k24_18
  have k25_25 := ku hg25 25 k24_25
  have k25_26 := kt hg25 26 (upd_same _ _ _)
  refine tail_value (o := _) rfl rfl rfl (v := .pointer (some ⟨(s2 7), 1, none⟩)) (by simp [go_sem, frv 58 k25_3]) ?_
  generalize hg26 : upd g25 27 (.pointer (some ⟨(s2 7), 1, none⟩)) = g26
  have k26_1 := ku hg26 1 k25_1
  have k26_2 := ku hg26 2 k25_2
  have k26_3 := ku hg26 3 k25_3
  have k26_4 := ku hg26 4 k25_4
  have k26_14 := ku hg26 14 k25_14
  have k26_18 := ku hg26 18 k25_18
  have k26_25 := ku hg26 25 k25_25
  have k26_26 := ku hg26 26 k25_26
  have k26_27 := kt hg26 27 (upd_same _ _ _)
  obtain ⟨W27, hW27⟩ : ∃ W', W' = W25.setRow (s2 7) #[.int .i64 30, .slice (some ⟨ga25, 0, none⟩) (4) (ca25), .int .i64 (40 + xh), .slice (none) (0) (0), .slice (none) (0) (0), .int .i64 9, .bool xo] := ⟨_, rfl⟩
  refine tail_skip (o := _) rfl ⟨rfl, rfl⟩ (run_seg hW27 (fr_ev k26_27) (fr_ev k26_26) b25_2 rfl rfl rfl rfl) ?_
  obtain ⟨fB27, nb27, ot27, z27⟩ := seg_facts hW27 fB25 b25_2 (by omega)
  clear hW27
  have b27_0 := ot27 _ _ (by omega) b25_0
  have b27_1 := ot27 _ _ (by omega) b25_1
  have q16' := ow25.otherV ot27 (by omega) z27
  refine wpOps_end ?_
  refine inBlock_normal ?_
  refine hK20 _ _ ?_
  refine region_dk 3 [(15, 0), (16, 1), (4, 2)] [[], [0], [0, 1]] (rel [is (.int .i64 3),
      is (.int .i64 4),
      is (.int .i64 4)])
    ⟨is_k, is_k, is_k, trivial⟩
    ⟨fun f s W j m p q r d => opv rfl rfl (by simp [go_sem, d.e 4 ((q 2 4 rfl rfl).trans k26_4)]) rfl,
    fun f s W j m p q r d => opv rfl rfl (by simp [go_sem, d.e 15 (m 0 rfl), IntWalk.i64_in (4) (by omega)]) rfl,
    fun f s W j m p q r d => opv rfl rfl (by simp [go_sem, d.e 16 (m 1 rfl)]) rfl, trivial⟩ ?_
  intro f28 s28 W28 hB28 g28 hg28
  have fB28 := hB28.f fB27
  have z28 := hB28.below.size
  have b28_0 := hB28.b b27_0
  have b28_1 := hB28.b b27_1
  have b28_2 := hB28.b nb27
  have q17' := (q16'.below hB28.below)
  refine wpOps_end ?_
  have k28_1 := kt hg28 1 k26_1
  have k28_2 := kt hg28 2 k26_2
  have k28_3 := kt hg28 3 k26_3
  have k28_14 := kt hg28 14 k26_14
  have k28_18 := kt hg28 18 k26_18
  have k28_25 := kt hg28 25 k26_25
  have k28_26 := kt hg28 26 k26_26
  have k28_27 := kt hg28 27 k26_27
  have k28_4 := kt hg28 4 (hB28.is 2)
  refine then_normal ?_
  rw [rounds_succ]
  refine wp_seq_k fun K21 hK21 => ?_
  refine wp_seq_k fun K22 hK22 => ?_
  refine region_dk 2 [(13, 0), (14, 1)] [[], [0]] (rel [is (.int .i64 4),
      is (.bool false)])
    ⟨is_k, is_k, trivial⟩
    ⟨fun f s W j m p q r d => opv rfl rfl (by simp [go_sem, d.e 4 k28_4]) rfl,
    fun f s W j m p q r d => opv rfl rfl (by simp [go_sem, d.e 13 (m 0 rfl)]) rfl, trivial⟩ ?_
  intro f29 s29 W29 hB29 g29 hg29
  have fB29 := hB29.f fB28
  have z29 := hB29.below.size
  have b29_0 := hB29.b b28_0
  have b29_1 := hB29.b b28_1
  have b29_2 := hB29.b b28_2
  have q18' := (q17'.below hB29.below)
  refine hK22 _ _ ?_
  have k29_1 := kt hg29 1 k28_1
  have k29_2 := kt hg29 2 k28_2
  have k29_3 := kt hg29 3 k28_3
  have k29_18 := kt hg29 18 k28_18
  have k29_25 := kt hg29 25 k28_25
  have k29_26 := kt hg29 26 k28_26
  have k29_27 := kt hg29 27 k28_27
  have k29_4 := kt hg29 4 k28_4
  have k29_14 := kt hg29 14 (hB29.is 1)
  refine wp_cond_false ((fr_eval rfl).trans k29_14) ?_
  refine wp_exit ?_
  refine then_exit ?_
  refine then_exit ?_
  refine inBlock_at ?_
  refine hK3 _ _ ?_
  refine wp_seq_k fun K24 hK24 => ?_
  refine wp_seq_k fun K25 hK25 => ?_
  refine region_dk 1 [(5, 0)] [[]] (rel [is (.int .i64 0)])
    ⟨is_k, trivial⟩
    ⟨fun f s W j m p q r d => opv rfl rfl (by simp [go_sem]) rfl, trivial⟩ ?_
  intro f30 s30 W30 hB30 g30 hg30
  have fB30 := hB30.f fB29
  have z30 := hB30.below.size
  have b30_0 := hB30.b b29_0
  have b30_1 := hB30.b b29_1
  have b30_2 := hB30.b b29_2
  have q19' := (q18'.below hB30.below)
  refine hK25 _ _ ?_
  have k30_1 := kt hg30 1 k29_1
  have k30_2 := kt hg30 2 k29_2
  have k30_3 := kt hg30 3 k29_3
  have k30_5 := kt hg30 5 (hB30.is 0)
  have owt0 : OwnV 3 1 W30.heap.size (iis []) 0 none 0 W30 := ownV_nil (Nat.le_refl _)
  have owb0 := owt0
  have ne0 : ∀ x y, (none : Option Addr) = some x → (none : Option Addr) = some y → x.block ≠ y.block := fun x y e => nofun
  have hpl : ∀ x, (some ⟨ga25, 0, none⟩ : Option Addr) = some x → x.block < W30.heap.size := fun x e => (q19'.2.1 x e).2
  refine wp_block ?_
  refine wp_loop_rounds 3 ?_
  rw [rounds_succ]
  refine wp_seq_k fun K26 hK26 => ?_
  refine wp_seq_k fun K27 hK27 => ?_
  refine region_dk 2 [(28, 0), (29, 1)] [[], [0]] (rel [is (.int .i64 0),
      is (.bool true)])
    ⟨is_k, is_k, trivial⟩
    ⟨fun f s W j m p q r d => opv rfl rfl (by simp [go_sem, d.e 5 k30_5]) rfl,
    fun f s W j m p q r d => opv rfl rfl (by simp [go_sem, d.e 28 (m 0 rfl)]) rfl, trivial⟩ ?_
  intro f31 s31 W31 hB31 g31 hg31
  have fB31 := hB31.f fB30
  have z31 := hB31.below.size
  have b31_0 := hB31.b b30_0
  have b31_1 := hB31.b b30_1
  have b31_2 := hB31.b b30_2
  have q20' := (q19'.below hB31.below)
  have q21' := (owt0.below hB31.below)
  refine hK27 _ _ ?_
  have k31_1 := kt hg31 1 k30_1
  have k31_2 := kt hg31 2 k30_2
  have k31_3 := kt hg31 3 k30_3
  have k31_5 := kt hg31 5 k30_5
  have k31_29 := kt hg31 29 (hB31.is 1)
  refine wp_cond_true ((fr_eval rfl).trans k31_29) ?_
  refine wp_skip ?_
  refine hK26 _ _ ?_
  refine wp_seq_k fun K29 hK29 => ?_
  refine wp_block ?_
  obtain ⟨S32, hS32⟩ : ∃ S : Nat → Prop, twoS (none) (none) = S := ⟨_, rfl⟩
  obtain ⟨P32, hP32⟩ : ∃ P : List (World → Prop), twoP (W30.heap.size) [] [y0] [] [y2] (none) (none) (0) (0) = P := ⟨_, rfl⟩
  have hst32 : StayB P32 := hP32 ▸ twoP_stay _ _ _ _ _ _ _ _ _
  have hlo32 : ∀ k, S32 k → W30.heap.size ≤ k ∧ k < W31.heap.size := by
    intro k h
    rw [← hS32] at h
    rcases h with ⟨x, e, rfl⟩ | ⟨x, e, rfl⟩
    · exact q21'.2.1 x e
    · exact q21'.2.1 x e
  have hbl32 : ∀ a b, Below a.heap.size a b → LeX S32 P32 a b := LeX.of_below hst32
  have nx32_0 : ¬ S32 (s1 0) := fun e => by have := hlo32 _ e; omega
  have nx32_1 : ¬ S32 (s1 1) := fun e => by have := hlo32 _ e; omega
  have nx32_2 : ¬ S32 (s2 7) := fun e => by have := hlo32 _ e; omega
  refine region_doL (LeX S32 P32) LeX.refl (LeX.drew hst32) LeX.trans (fun _ _ h => h.size) 20 [(32, 0), (33, 1), (34, 2), (35, 3), (36, 4), (37, 5), (38, 6), (39, 7), (40, 8), (41, 9), (42, 10), (43, 11), (44, 12), (45, 13), (46, 14), (47, 15), (48, 16), (49, 17), (50, 18), (51, 19), (52, 21)] [[], [0], [], [], [2, 3], [2, 3, 4], [2, 3, 4, 5], [2, 3, 4, 5, 6], [0, 1, 2, 3, 4, 5, 6, 7], [], [9], [], [11], [], [11, 12, 13], [11, 12, 13, 14], [11, 12, 13, 14, 15], [11, 12, 13, 14, 15, 16], [0, 1, 2, 3, 4, 5, 6, 7, 8, 9, 10, 11, 12, 13, 14, 15, 16, 17], [0, 1, 2, 3, 4, 5, 6, 7, 8, 9, 10], [0, 1, 2, 3, 4, 5, 6, 7, 8, 9, 10, 11, 12, 13, 14, 15, 16, 17, 18, 19], [0, 1, 2, 3, 4, 5, 6, 7, 8, 9, 10, 11, 12, 13, 14, 15, 16, 17, 18, 19, 20], [0, 1, 2, 3, 4, 5, 6, 7, 8, 9, 10, 11, 12, 13, 14, 15, 16, 17, 18, 19, 20, 21]] (rel [is (.pointer (some ⟨(s2 7), 3, none⟩)),
      is (.slice (none) (0) (0)),
      is (.int .i64 0),
      is (.pointer (some ⟨(s1 0), 5, none⟩)),
      is (.pointer (some ⟨(s1 0), 5, none⟩)),
      is (.int .u8 y0),
      is (.int .i64 y0),
      rowX S32 7 1 #[.int .i64 y0] 3,
      rowA (W30.heap.size) W31.heap.size 8 [y0] (none) (0),
      is (.pointer (some ⟨(s2 7), 4, none⟩)),
      is (.slice (none) (0) (0)),
      is (.int .i64 0),
      is (.int .i64 2),
      is (.pointer (some ⟨(s1 0), 5, none⟩)),
      is (.pointer (some ⟨(s1 0), 7, none⟩)),
      is (.int .u8 y2),
      is (.int .i64 y2),
      rowX S32 17 1 #[.int .i64 y2] 3,
      rowA (W30.heap.size) W31.heap.size 18 [y2] (none) (0),
      is (.pointer (some ⟨(s2 7), 3, none⟩))]) (by kernel_rfl) (by kernel_rfl) (by kernel_rfl) (by kernel_rfl)
    ⟨is_kl, is_kl, is_kl, is_kl, is_kl, is_kl, is_kl, rowX_k, rowA_k (fun k h => (hlo32 k h).2) (by rw [← hP32]; simp [twoP]), is_kl, is_kl, is_kl, is_kl, is_kl, is_kl, is_kl, is_kl, rowX_k, rowA_k (fun k h => (hlo32 k h).2) (by rw [← hP32]; simp [twoP]), is_kl, trivial⟩
    ⟨fun f s W j m p q r d => OpDo.l hbl32 (opv rfl rfl (by simp [go_sem, d.e 3 k31_3]) rfl),
    fun f s W j m p q r d => OpDo.l hbl32 (opv rfl rfl (by simp [go_sem, d.e 32 (m 0 rfl), cl (blk_x b31_2 j nx32_2) 3]) rfl),
    fun f s W j m p q r d => OpDo.l hbl32 (opv rfl rfl (by simp [go_sem, d.e 5 k31_5]) rfl),
    fun f s W j m p q r d => OpDo.l hbl32 (opv rfl rfl (by simp [go_sem, d.e 1 k31_1]) rfl),
    fun f s W j m p q r d => OpDo.l hbl32 (opv rfl rfl (by simp [go_sem, d.e 35 (m 3 rfl), d.e 34 (m 2 rfl)]) rfl),
    fun f s W j m p q r d => OpDo.l hbl32 (opv rfl rfl (by simp [go_sem, d.e 36 (m 4 rfl), cl (blk_x b31_0 j nx32_0) 5]) rfl),
    fun f s W j m p q r d => OpDo.l hbl32 (by have cv_ := IntWalk.i64_in y0 (by omega); exact opv rfl rfl (by simp [go_sem, d.e 37 (m 5 rfl), cv_]) rfl),
    fun f s W j m p q r d => OpDo.rowx hst32 (fun e => by have := hlo32 _ e; have := j.size; omega) (opr rfl rfl (by simp [go_sem, d.e 38 (m 6 rfl)])),
    fun f s W j m p q r d => by obtain ⟨v_, W_, r_, b_, i_⟩ := app_x (i := 8) (W := W) (S := S32) (Ps := P32) 22 (xs := []) (zs := [y0]) (n := 0) (c := 0) rfl (by decide) (j.stay _ (by rw [← hP32]; simp [twoP]) q21') (m 7 rfl).2.2 rfl j.size hst32 (fun g e => by rw [← hS32]; exact .inl ⟨_, e, rfl⟩) (fun W' g h1 h2 h3 h4 h5 => by rw [← hP32]; exact two_in1 ne0 h1 h2 h3 h4 h5); exact opDoL_value rfl rfl (run_appendOp (d.v 33 (m 1 rfl)) (d.v 39 (m 7 rfl).2.1) r_) b_ (i_ _ (upd_same _ _ _)),
    fun f s W j m p q r d => OpDo.l hbl32 (opv rfl rfl (by simp [go_sem, d.e 3 k31_3]) rfl),
    fun f s W j m p q r d => OpDo.l hbl32 (opv rfl rfl (by simp [go_sem, d.e 41 (m 9 rfl), cl (blk_x b31_2 j nx32_2) 4]) rfl),
    fun f s W j m p q r d => OpDo.l hbl32 (opv rfl rfl (by simp [go_sem, d.e 5 k31_5]) rfl),
    fun f s W j m p q r d => OpDo.l hbl32 (opv rfl rfl (by simp [go_sem, d.e 43 (m 11 rfl), IntWalk.i64_in (2) (by omega)]) rfl),
    fun f s W j m p q r d => OpDo.l hbl32 (opv rfl rfl (by simp [go_sem, d.e 1 k31_1]) rfl),
    fun f s W j m p q r d => OpDo.l hbl32 (opv rfl rfl (by simp [go_sem, d.e 45 (m 13 rfl), d.e 44 (m 12 rfl)]) rfl),
    fun f s W j m p q r d => OpDo.l hbl32 (opv rfl rfl (by simp [go_sem, d.e 46 (m 14 rfl), cl (blk_x b31_0 j nx32_0) 7]) rfl),
    fun f s W j m p q r d => OpDo.l hbl32 (by have cv_ := IntWalk.i64_in y2 (by omega); exact opv rfl rfl (by simp [go_sem, d.e 47 (m 15 rfl), cv_]) rfl),
    fun f s W j m p q r d => OpDo.rowx hst32 (fun e => by have := hlo32 _ e; have := j.size; omega) (opr rfl rfl (by simp [go_sem, d.e 48 (m 16 rfl)])),
    fun f s W j m p q r d => by obtain ⟨v_, W_, r_, b_, i_⟩ := app_x (i := 18) (W := W) (S := S32) (Ps := P32) 22 (xs := []) (zs := [y2]) (n := 0) (c := 0) rfl (by decide) (j.stay _ (by rw [← hP32]; simp [twoP]) q21') (m 17 rfl).2.2 rfl j.size hst32 (fun g e => by rw [← hS32]; exact .inr ⟨_, e, rfl⟩) (fun W' g h1 h2 h3 h4 h5 => by rw [← hP32]; exact two_in2 ne0 h1 h2 h3 h4 h5); exact opDoL_value rfl rfl (run_appendOp (d.v 42 (m 10 rfl)) (d.v 49 (m 17 rfl).2.1) r_) b_ (i_ _ (upd_same _ _ _)),
    fun f s W j m p q r d => OpDo.l hbl32 (opv rfl rfl (by simp [go_sem, d.e 3 k31_3]) rfl), trivial⟩ ?_
  intro f32 s32 W32 hB32
  have fB32 : Below w.heap.size w W32 := (fB31).trans (hB32.le.below (fB31).size fun k h => by have := hlo32 k h; have := (fB30).size; omega)
  have z32 : W31.heap.size ≤ W32.heap.size := hB32.le.size
  have b32_0 := blk_x b31_0 hB32.le nx32_0
  have b32_1 := blk_x b31_1 hB32.le nx32_1
  have b32_2 := blk_x b31_2 hB32.le nx32_2
  have q22' := q20'.same hB32.le.size (fun x e => hB32.le.block _ (q20'.2.1 x e).2 fun h => by have := hlo32 _ h; have := hpl x e; omega)
  obtain ⟨ga32_8, ca32_8, ea32_8, ro32_8, pa32_8⟩ := hB32.is 8
  obtain ⟨ga32_18, ca32_18, ea32_18, ro32_18, pa32_18⟩ := hB32.is 18
  have ne32 : ∀ x y, some (⟨ga32_8, 0, none⟩ : Addr) = some x → some (⟨ga32_18, 0, none⟩ : Addr) = some y → x.block ≠ y.block := by
    intro x y e1 e2
    cases e1; cases e2
    show ga32_8 ≠ ga32_18
    rcases pa32_8 with ⟨h1, -⟩ | ⟨h1, h2⟩ <;> rcases pa32_18 with ⟨h3, -⟩ | ⟨h3, h4⟩
    · exact ne0 _ _ h1 h3
    · have := hlo32 ga32_8 (hS32 ▸ .inl ⟨_, h1, rfl⟩); omega
    · have := hlo32 ga32_18 (hS32 ▸ .inr ⟨_, h3, rfl⟩); omega
    · exact hB32.two 8 18 (by decide) (by decide) (by decide) h2 h4 (fun W h => rowA_lt h ea32_8) (fun W h => rowA_lt h ea32_18)
  clear hst32 hbl32
  generalize hg32 : ov [(32, 0), (33, 1), (34, 2), (35, 3), (36, 4), (37, 5), (38, 6), (39, 7), (40, 8), (41, 9), (42, 10), (43, 11), (44, 12), (45, 13), (46, 14), (47, 15), (48, 16), (49, 17), (50, 18), (51, 19), (52, 21)] f32 g31 = g32
  have k32_1 := kt hg32 1 k31_1
  have k32_2 := kt hg32 2 k31_2
  have k32_3 := kt hg32 3 k31_3
  have k32_5 := kt hg32 5 k31_5
  have k32_29 := kt hg32 29 k31_29
  have k32_51 := kt hg32 51 (hB32.is 19)
  have k32_40 := kt hg32 40 ea32_8
  have k32_50 := kt hg32 50 ea32_18
  obtain ⟨W33, hW33⟩ : ∃ W', W' = W32.setRow (s2 7) #[.int .i64 30, .slice (some ⟨ga25, 0, none⟩) (4) (ca25), .int .i64 (40 + xh), .slice (some ⟨ga32_8, 0, none⟩) (1) (ca32_8), .slice (none) (0) (0), .int .i64 9, .bool xo] := ⟨_, rfl⟩
  refine tail_skip (o := _) rfl ⟨rfl, rfl⟩ (run_seg hW33 (fr_ev k32_51) (fr_ev k32_40) b32_2 rfl rfl rfl rfl) ?_
  obtain ⟨fB33, nb33, ot33, z33⟩ := seg_facts hW33 fB32 b32_2 (by omega)
  clear hW33
  have b33_0 := ot33 _ _ (by omega) b32_0
  have b33_1 := ot33 _ _ (by omega) b32_1
  have q23' := q22'.otherV ot33 (by omega) z33
  have q24' := ro32_8.otherV ot33 (by omega) z33
  have q25' := ro32_18.otherV ot33 (by omega) z33
  refine tail_value (o := _) rfl rfl rfl (v := .pointer (some ⟨(s2 7), 4, none⟩)) (by simp [go_sem, frv 58 k32_3]) ?_
  generalize hg34 : upd g32 52 (.pointer (some ⟨(s2 7), 4, none⟩)) = g34
  have k34_1 := ku hg34 1 k32_1
  have k34_2 := ku hg34 2 k32_2
  have k34_3 := ku hg34 3 k32_3
  have k34_5 := ku hg34 5 k32_5
  have k34_29 := ku hg34 29 k32_29
  have k34_51 := ku hg34 51 k32_51
  have k34_40 := ku hg34 40 k32_40
  have k34_50 := ku hg34 50 k32_50
  have k34_52 := kt hg34 52 (upd_same _ _ _)
  obtain ⟨W35, hW35⟩ : ∃ W', W' = W33.setRow (s2 7) #[.int .i64 30, .slice (some ⟨ga25, 0, none⟩) (4) (ca25), .int .i64 (40 + xh), .slice (some ⟨ga32_8, 0, none⟩) (1) (ca32_8), .slice (some ⟨ga32_18, 0, none⟩) (1) (ca32_18), .int .i64 9, .bool xo] := ⟨_, rfl⟩
  refine tail_skip (o := _) rfl ⟨rfl, rfl⟩ (run_seg hW35 (fr_ev k34_52) (fr_ev k34_50) nb33 rfl rfl rfl rfl) ?_
  obtain ⟨fB35, nb35, ot35, z35⟩ := seg_facts hW35 fB33 nb33 (by omega)
  clear hW35
  have b35_0 := ot35 _ _ (by omega) b33_0
  have b35_1 := ot35 _ _ (by omega) b33_1
  have q26' := q23'.otherV ot35 (by omega) z35
  have q27' := q24'.otherV ot35 (by omega) z35
  have q28' := q25'.otherV ot35 (by omega) z35
  refine wpOps_end ?_
  refine inBlock_normal ?_
  refine hK29 _ _ ?_
  refine region_dk 3 [(30, 0), (31, 1), (5, 2)] [[], [0], [0, 1]] (rel [is (.int .i64 0),
      is (.int .i64 1),
      is (.int .i64 1)])
    ⟨is_k, is_k, is_k, trivial⟩
    ⟨fun f s W j m p q r d => opv rfl rfl (by simp [go_sem, d.e 5 ((q 2 5 rfl rfl).trans k34_5)]) rfl,
    fun f s W j m p q r d => opv rfl rfl (by simp [go_sem, d.e 30 (m 0 rfl), IntWalk.i64_in (1) (by omega)]) rfl,
    fun f s W j m p q r d => opv rfl rfl (by simp [go_sem, d.e 31 (m 1 rfl)]) rfl, trivial⟩ ?_
  intro f36 s36 W36 hB36 g36 hg36
  have fB36 := hB36.f fB35
  have z36 := hB36.below.size
  have b36_0 := hB36.b b35_0
  have b36_1 := hB36.b b35_1
  have b36_2 := hB36.b nb35
  have q29' := (q26'.below hB36.below)
  have q30' := (q27'.below hB36.below)
  have q31' := (q28'.below hB36.below)
  refine wpOps_end ?_
  have k36_1 := kt hg36 1 k34_1
  have k36_2 := kt hg36 2 k34_2
  have k36_3 := kt hg36 3 k34_3
  have k36_29 := kt hg36 29 k34_29
  have k36_51 := kt hg36 51 k34_51
  have k36_40 := kt hg36 40 k34_40
  have k36_50 := kt hg36 50 k34_50
  have k36_52 := kt hg36 52 k34_52
  have k36_5 := kt hg36 5 (hB36.is 2)
  refine then_normal ?_
  rw [rounds_succ]
  refine wp_seq_k fun K30 hK30 => ?_
  refine wp_seq_k fun K31 hK31 => ?_
  refine region_dk 2 [(28, 0), (29, 1)] [[], [0]] (rel [is (.int .i64 1),
      is (.bool true)])
    ⟨is_k, is_k, trivial⟩
    ⟨fun f s W j m p q r d => opv rfl rfl (by simp [go_sem, d.e 5 k36_5]) rfl,
    fun f s W j m p q r d => opv rfl rfl (by simp [go_sem, d.e 28 (m 0 rfl)]) rfl, trivial⟩ ?_
  intro f37 s37 W37 hB37 g37 hg37
  have fB37 := hB37.f fB36
  have z37 := hB37.below.size
  have b37_0 := hB37.b b36_0
  have b37_1 := hB37.b b36_1
  have b37_2 := hB37.b b36_2
  have q32' := (q29'.below hB37.below)
  have q33' := (q30'.below hB37.below)
  have q34' := (q31'.below hB37.below)
  refine hK31 _ _ ?_
  have k37_1 := kt hg37 1 k36_1
  have k37_2 := kt hg37 2 k36_2
  have k37_3 := kt hg37 3 k36_3
  have k37_51 := kt hg37 51 k36_51
  have k37_40 := kt hg37 40 k36_40
  have k37_50 := kt hg37 50 k36_50
  have k37_52 := kt hg37 52 k36_52
  have k37_5 := kt hg37 5 k36_5
  have k37_29 := kt hg37 29 (hB37.is 1)
  refine wp_cond_true ((fr_eval rfl).trans k37_29) ?_
  refine wp_skip ?_
  refine hK30 _ _ ?_
  refine wp_seq_k fun K33 hK33 => ?_
  refine wp_block ?_
  obtain ⟨S38, hS38⟩ : ∃ S : Nat → Prop, twoS (some ⟨ga32_8, 0, none⟩) (some ⟨ga32_18, 0, none⟩) = S := ⟨_, rfl⟩
  obtain ⟨P38, hP38⟩ : ∃ P : List (World → Prop), twoP (W30.heap.size) [y0] [y0, y1] [y2] [y2, y3] (some ⟨ga32_8, 0, none⟩) (some ⟨ga32_18, 0, none⟩) (ca32_8) (ca32_18) = P := ⟨_, rfl⟩
  have hst38 : StayB P38 := hP38 ▸ twoP_stay _ _ _ _ _ _ _ _ _
  have hlo38 : ∀ k, S38 k → W30.heap.size ≤ k ∧ k < W37.heap.size := by
    intro k h
    rw [← hS38] at h
    rcases h with ⟨x, e, rfl⟩ | ⟨x, e, rfl⟩
    · exact q33'.2.1 x e
    · exact q34'.2.1 x e
  have hbl38 : ∀ a b, Below a.heap.size a b → LeX S38 P38 a b := LeX.of_below hst38
  have nx38_0 : ¬ S38 (s1 0) := fun e => by have := hlo38 _ e; omega
  have nx38_1 : ¬ S38 (s1 1) := fun e => by have := hlo38 _ e; omega
  have nx38_2 : ¬ S38 (s2 7) := fun e => by have := hlo38 _ e; omega
  refine region_doL (LeX S38 P38) LeX.refl (LeX.drew hst38) LeX.trans (fun _ _ h => h.size) 20 [(32, 0), (33, 1), (34, 2), (35, 3), (36, 4), (37, 5), (38, 6), (39, 7), (40, 8), (41, 9), (42, 10), (43, 11), (44, 12), (45, 13), (46, 14), (47, 15), (48, 16), (49, 17), (50, 18), (51, 19), (52, 21)] [[], [0], [], [], [2, 3], [2, 3, 4], [2, 3, 4, 5], [2, 3, 4, 5, 6], [0, 1, 2, 3, 4, 5, 6, 7], [], [9], [], [11], [], [11, 12, 13], [11, 12, 13, 14], [11, 12, 13, 14, 15], [11, 12, 13, 14, 15, 16], [0, 1, 2, 3, 4, 5, 6, 7, 8, 9, 10, 11, 12, 13, 14, 15, 16, 17], [0, 1, 2, 3, 4, 5, 6, 7, 8, 9, 10], [0, 1, 2, 3, 4, 5, 6, 7, 8, 9, 10, 11, 12, 13, 14, 15, 16, 17, 18, 19], [0, 1, 2, 3, 4, 5, 6, 7, 8, 9, 10, 11, 12, 13, 14, 15, 16, 17, 18, 19, 20], [0, 1, 2, 3, 4, 5, 6, 7, 8, 9, 10, 11, 12, 13, 14, 15, 16, 17, 18, 19, 20, 21]] (rel [is (.pointer (some ⟨(s2 7), 3, none⟩)),
      is (.slice (some ⟨ga32_8, 0, none⟩) (1) (ca32_8)),
      is (.int .i64 1),
      is (.pointer (some ⟨(s1 0), 5, none⟩)),
      is (.pointer (some ⟨(s1 0), 6, none⟩)),
      is (.int .u8 y1),
      is (.int .i64 y1),
      rowX S38 7 1 #[.int .i64 y1] 3,
      rowA (W30.heap.size) W37.heap.size 8 [y0, y1] (some ⟨ga32_8, 0, none⟩) (ca32_8),
      is (.pointer (some ⟨(s2 7), 4, none⟩)),
      is (.slice (some ⟨ga32_18, 0, none⟩) (1) (ca32_18)),
      is (.int .i64 1),
      is (.int .i64 3),
      is (.pointer (some ⟨(s1 0), 5, none⟩)),
      is (.pointer (some ⟨(s1 0), 8, none⟩)),
      is (.int .u8 y3),
      is (.int .i64 y3),
      rowX S38 17 1 #[.int .i64 y3] 3,
      rowA (W30.heap.size) W37.heap.size 18 [y2, y3] (some ⟨ga32_18, 0, none⟩) (ca32_18),
      is (.pointer (some ⟨(s2 7), 3, none⟩))]) (by kernel_rfl) (by kernel_rfl) (by kernel_rfl) (by kernel_rfl)
    ⟨is_kl, is_kl, is_kl, is_kl, is_kl, is_kl, is_kl, rowX_k, rowA_k (fun k h => (hlo38 k h).2) (by rw [← hP38]; simp [twoP]), is_kl, is_kl, is_kl, is_kl, is_kl, is_kl, is_kl, is_kl, rowX_k, rowA_k (fun k h => (hlo38 k h).2) (by rw [← hP38]; simp [twoP]), is_kl, trivial⟩
    ⟨fun f s W j m p q r d => OpDo.l hbl38 (opv rfl rfl (by simp [go_sem, d.e 3 k37_3]) rfl),
    fun f s W j m p q r d => OpDo.l hbl38 (opv rfl rfl (by simp [go_sem, d.e 32 (m 0 rfl), cl (blk_x b37_2 j nx38_2) 3]) rfl),
    fun f s W j m p q r d => OpDo.l hbl38 (opv rfl rfl (by simp [go_sem, d.e 5 k37_5]) rfl),
    fun f s W j m p q r d => OpDo.l hbl38 (opv rfl rfl (by simp [go_sem, d.e 1 k37_1]) rfl),
    fun f s W j m p q r d => OpDo.l hbl38 (opv rfl rfl (by simp [go_sem, d.e 35 (m 3 rfl), d.e 34 (m 2 rfl)]) rfl),
    fun f s W j m p q r d => OpDo.l hbl38 (opv rfl rfl (by simp [go_sem, d.e 36 (m 4 rfl), cl (blk_x b37_0 j nx38_0) 6]) rfl),
    fun f s W j m p q r d => OpDo.l hbl38 (by have cv_ := IntWalk.i64_in y1 (by omega); exact opv rfl rfl (by simp [go_sem, d.e 37 (m 5 rfl), cv_]) rfl),
    fun f s W j m p q r d => OpDo.rowx hst38 (fun e => by have := hlo38 _ e; have := j.size; omega) (opr rfl rfl (by simp [go_sem, d.e 38 (m 6 rfl)])),
    fun f s W j m p q r d => by obtain ⟨v_, W_, r_, b_, i_⟩ := app_x (i := 8) (W := W) (S := S38) (Ps := P38) 22 (xs := [y0]) (zs := [y0, y1]) (n := 1) (c := ca32_8) rfl (by decide) (j.stay _ (by rw [← hP38]; simp [twoP]) q33') (m 7 rfl).2.2 rfl j.size hst38 (fun g e => by rw [← hS38]; exact .inl ⟨_, e, rfl⟩) (fun W' g h1 h2 h3 h4 h5 => by rw [← hP38]; exact two_in1 ne32 h1 h2 h3 h4 h5); exact opDoL_value rfl rfl (run_appendOp (d.v 33 (m 1 rfl)) (d.v 39 (m 7 rfl).2.1) r_) b_ (i_ _ (upd_same _ _ _)),
    fun f s W j m p q r d => OpDo.l hbl38 (opv rfl rfl (by simp [go_sem, d.e 3 k37_3]) rfl),
    fun f s W j m p q r d => OpDo.l hbl38 (opv rfl rfl (by simp [go_sem, d.e 41 (m 9 rfl), cl (blk_x b37_2 j nx38_2) 4]) rfl),
    fun f s W j m p q r d => OpDo.l hbl38 (opv rfl rfl (by simp [go_sem, d.e 5 k37_5]) rfl),
    fun f s W j m p q r d => OpDo.l hbl38 (opv rfl rfl (by simp [go_sem, d.e 43 (m 11 rfl), IntWalk.i64_in (3) (by omega)]) rfl),
    fun f s W j m p q r d => OpDo.l hbl38 (opv rfl rfl (by simp [go_sem, d.e 1 k37_1]) rfl),
    fun f s W j m p q r d => OpDo.l hbl38 (opv rfl rfl (by simp [go_sem, d.e 45 (m 13 rfl), d.e 44 (m 12 rfl)]) rfl),
    fun f s W j m p q r d => OpDo.l hbl38 (opv rfl rfl (by simp [go_sem, d.e 46 (m 14 rfl), cl (blk_x b37_0 j nx38_0) 8]) rfl),
    fun f s W j m p q r d => OpDo.l hbl38 (by have cv_ := IntWalk.i64_in y3 (by omega); exact opv rfl rfl (by simp [go_sem, d.e 47 (m 15 rfl), cv_]) rfl),
    fun f s W j m p q r d => OpDo.rowx hst38 (fun e => by have := hlo38 _ e; have := j.size; omega) (opr rfl rfl (by simp [go_sem, d.e 48 (m 16 rfl)])),
    fun f s W j m p q r d => by obtain ⟨v_, W_, r_, b_, i_⟩ := app_x (i := 18) (W := W) (S := S38) (Ps := P38) 22 (xs := [y2]) (zs := [y2, y3]) (n := 1) (c := ca32_18) rfl (by decide) (j.stay _ (by rw [← hP38]; simp [twoP]) q34') (m 17 rfl).2.2 rfl j.size hst38 (fun g e => by rw [← hS38]; exact .inr ⟨_, e, rfl⟩) (fun W' g h1 h2 h3 h4 h5 => by rw [← hP38]; exact two_in2 ne32 h1 h2 h3 h4 h5); exact opDoL_value rfl rfl (run_appendOp (d.v 42 (m 10 rfl)) (d.v 49 (m 17 rfl).2.1) r_) b_ (i_ _ (upd_same _ _ _)),
    fun f s W j m p q r d => OpDo.l hbl38 (opv rfl rfl (by simp [go_sem, d.e 3 k37_3]) rfl), trivial⟩ ?_
  intro f38 s38 W38 hB38
  have fB38 : Below w.heap.size w W38 := (fB37).trans (hB38.le.below (fB37).size fun k h => by have := hlo38 k h; have := (fB30).size; omega)
  have z38 : W37.heap.size ≤ W38.heap.size := hB38.le.size
  have b38_0 := blk_x b37_0 hB38.le nx38_0
  have b38_1 := blk_x b37_1 hB38.le nx38_1
  have b38_2 := blk_x b37_2 hB38.le nx38_2
  have q35' := q32'.same hB38.le.size (fun x e => hB38.le.block _ (q32'.2.1 x e).2 fun h => by have := hlo38 _ h; have := hpl x e; omega)
  obtain ⟨ga38_8, ca38_8, ea38_8, ro38_8, pa38_8⟩ := hB38.is 8
  obtain ⟨ga38_18, ca38_18, ea38_18, ro38_18, pa38_18⟩ := hB38.is 18
  have ne38 : ∀ x y, some (⟨ga38_8, 0, none⟩ : Addr) = some x → some (⟨ga38_18, 0, none⟩ : Addr) = some y → x.block ≠ y.block := by
    intro x y e1 e2
    cases e1; cases e2
    show ga38_8 ≠ ga38_18
    rcases pa38_8 with ⟨h1, -⟩ | ⟨h1, h2⟩ <;> rcases pa38_18 with ⟨h3, -⟩ | ⟨h3, h4⟩
    · exact ne32 _ _ h1 h3
    · have := hlo38 ga38_8 (hS38 ▸ .inl ⟨_, h1, rfl⟩); omega
    · have := hlo38 ga38_18 (hS38 ▸ .inr ⟨_, h3, rfl⟩); omega
    · exact hB38.two 8 18 (by decide) (by decide) (by decide) h2 h4 (fun W h => rowA_lt h ea38_8) (fun W h => rowA_lt h ea38_18)
  clear hst38 hbl38
  generalize hg38 : ov [(32, 0), (33, 1), (34, 2), (35, 3), (36, 4), (37, 5), (38, 6), (39, 7), (40, 8), (41, 9), (42, 10), (43, 11), (44, 12), (45, 13), (46, 14), (47, 15), (48, 16), (49, 17), (50, 18), (51, 19), (52, 21)] f38 g37 = g38
  have k38_1 := kt hg38 1 k37_1
  have k38_2 := kt hg38 2 k37_2
  have k38_3 := kt hg38 3 k37_3
  have k38_5 := kt hg38 5 k37_5
  have k38_29 := kt hg38 29 k37_29
  have k38_51 := kt hg38 51 (hB38.is 19)
  have k38_40 := kt hg38 40 ea38_8
  have k38_50 := kt hg38 50 ea38_18
  obtain ⟨W39, hW39⟩ : ∃ W', W' = W38.setRow (s2 7) #[.int .i64 30, .slice (some ⟨ga25, 0, none⟩) (4) (ca25), .int .i64 (40 + xh), .slice (some ⟨ga38_8, 0, none⟩) (2) (ca38_8), .slice (some ⟨ga32_18, 0, none⟩) (1) (ca32_18), .int .i64 9, .bool xo] := ⟨_, rfl⟩
  refine tail_skip (o := _) rfl ⟨rfl, rfl⟩ (run_seg hW39 (fr_ev k38_51) (fr_ev k38_40) b38_2 rfl rfl rfl rfl) ?_
  obtain ⟨fB39, nb39, ot39, z39⟩ := seg_facts hW39 fB38 b38_2 (by omega)
  clear hW39
  have b39_0 := ot39 _ _ (by omega) b38_0
  have b39_1 := ot39 _ _ (by omega) b38_1
  have q36' := q35'.otherV ot39 (by omega) z39
  have q37' := ro38_8.otherV ot39 (by omega) z39
  have q38' := ro38_18.otherV ot39 (by omega) z39
  refine tail_value (o := _) rfl rfl rfl (v := .pointer (some ⟨(s2 7), 4, none⟩)) (by simp [go_sem, frv 58 k38_3]) ?_
  generalize hg40 : upd g38 52 (.pointer (some ⟨(s2 7), 4, none⟩)) = g40
  have k40_1 := ku hg40 1 k38_1
  have k40_2 := ku hg40 2 k38_2
  have k40_3 := ku hg40 3 k38_3
  have k40_5 := ku hg40 5 k38_5
  have k40_29 := ku hg40 29 k38_29
  have k40_51 := ku hg40 51 k38_51
  have k40_40 := ku hg40 40 k38_40
  have k40_50 := ku hg40 50 k38_50
  have k40_52 := kt hg40 52 (upd_same _ _ _)
  obtain ⟨W41, hW41⟩ : ∃ W', W' = W39.setRow (s2 7) #[.int .i64 30, .slice (some ⟨ga25, 0, none⟩) (4) (ca25), .int .i64 (40 + xh), .slice (some ⟨ga38_8, 0, none⟩) (2) (ca38_8), .slice (some ⟨ga38_18, 0, none⟩) (2) (ca38_18), .int .i64 9, .bool xo] := ⟨_, rfl⟩
  refine tail_skip (o := _) rfl ⟨rfl, rfl⟩ (run_seg hW41 (fr_ev k40_52) (fr_ev k40_50) nb39 rfl rfl rfl rfl) ?_
  obtain ⟨fB41, nb41, ot41, z41⟩ := seg_facts hW41 fB39 nb39 (by omega)
  clear hW41
  have b41_0 := ot41 _ _ (by omega) b39_0
  have b41_1 := ot41 _ _ (by omega) b39_1
  have q39' := q36'.otherV ot41 (by omega) z41
  have q40' := q37'.otherV ot41 (by omega) z41
  have q41' := q38'.otherV ot41 (by omega) z41
  refine wpOps_end ?_
  refine inBlock_normal ?_
  refine hK33 _ _ ?_
  refine region_dk 3 [(30, 0), (31, 1), (5, 2)] [[], [0], [0, 1]] (rel [is (.int .i64 1),
      is (.int .i64 2),
      is (.int .i64 2)])
    ⟨is_k, is_k, is_k, trivial⟩
    ⟨fun f s W j m p q r d => opv rfl rfl (by simp [go_sem, d.e 5 ((q 2 5 rfl rfl).trans k40_5)]) rfl,
    fun f s W j m p q r d => opv rfl rfl (by simp [go_sem, d.e 30 (m 0 rfl), IntWalk.i64_in (2) (by omega)]) rfl,
    fun f s W j m p q r d => opv rfl rfl (by simp [go_sem, d.e 31 (m 1 rfl)]) rfl, trivial⟩ ?_
  intro f42 s42 W42 hB42 g42 hg42
  have fB42 := hB42.f fB41
  have z42 := hB42.below.size
  have b42_0 := hB42.b b41_0
  have b42_1 := hB42.b b41_1
  have b42_2 := hB42.b nb41
  have q42' := (q39'.below hB42.below)
  have q43' := (q40'.below hB42.below)
  have q44' := (q41'.below hB42.below)
  refine wpOps_end ?_
  have k42_1 := kt hg42 1 k40_1
  have k42_2 := kt hg42 2 k40_2
  have k42_3 := kt hg42 3 k40_3
  have k42_29 := kt hg42 29 k40_29
  have k42_51 := kt hg42 51 k40_51
  have k42_40 := kt hg42 40 k40_40
  have k42_50 := kt hg42 50 k40_50
  have k42_52 := kt hg42 52 k40_52
  have k42_5 := kt hg42 5 (hB42.is 2)
  refine then_normal ?_
  rw [rounds_succ]
  refine wp_seq_k fun K34 hK34 => ?_
  refine wp_seq_k fun K35 hK35 => ?_
  refine region_dk 2 [(28, 0), (29, 1)] [[], [0]] (rel [is (.int .i64 2),
      is (.bool false)])
    ⟨is_k, is_k, trivial⟩
    ⟨fun f s W j m p q r d => opv rfl rfl (by simp [go_sem, d.e 5 k42_5]) rfl,
    fun f s W j m p q r d => opv rfl rfl (by simp [go_sem, d.e 28 (m 0 rfl)]) rfl, trivial⟩ ?_
  intro f43 s43 W43 hB43 g43 hg43
  have fB43 := hB43.f fB42
  have z43 := hB43.below.size
  have b43_0 := hB43.b b42_0
  have b43_1 := hB43.b b42_1
  have b43_2 := hB43.b b42_2
  have q45' := (q42'.below hB43.below)
  have q46' := (q43'.below hB43.below)
  have q47' := (q44'.below hB43.below)
  refine hK35 _ _ ?_
  have k43_1 := kt hg43 1 k42_1
  have k43_2 := kt hg43 2 k42_2
  have k43_3 := kt hg43 3 k42_3
  have k43_51 := kt hg43 51 k42_51
  have k43_40 := kt hg43 40 k42_40
  have k43_50 := kt hg43 50 k42_50
  have k43_52 := kt hg43 52 k42_52
  have k43_5 := kt hg43 5 k42_5
  have k43_29 := kt hg43 29 (hB43.is 1)
  refine wp_cond_false ((fr_eval rfl).trans k43_29) ?_
  refine wp_exit ?_
  refine then_exit ?_
  refine then_exit ?_
  refine inBlock_at ?_
  refine hK24 _ _ ?_
  refine wp_seq_k fun K37 hK37 => ?_
  refine wp_seq_k fun K38 hK38 => ?_
  refine region_dk 2 [(53, 0), (54, 1)] [[], [0]] (rel [is (.pointer (some ⟨(s1 0), 9, none⟩)),
      is (.bool xo)])
    ⟨is_k, is_k, trivial⟩
    ⟨fun f s W j m p q r d => opv rfl rfl (by simp [go_sem, d.e 1 k43_1]) rfl,
    fun f s W j m p q r d => opv rfl rfl (by simp [go_sem, d.e 53 (m 0 rfl), cl (blk_below b43_0 j) 9]) rfl, trivial⟩ ?_
  intro f44 s44 W44 hB44 g44 hg44
  have fB44 := hB44.f fB43
  have z44 := hB44.below.size
  have b44_0 := hB44.b b43_0
  have b44_1 := hB44.b b43_1
  have b44_2 := hB44.b b43_2
  have q48' := (q45'.below hB44.below)
  have q49' := (q46'.below hB44.below)
  have q50' := (q47'.below hB44.below)
  refine hK38 _ _ ?_
  have k44_2 := kt hg44 2 k43_2
  have k44_3 := kt hg44 3 k43_3
  have k44_54 := kt hg44 54 (hB44.is 1)
  refine wp_cond_split (t := xo) ((fr_eval rfl).trans k44_54) (fun hc39 => ?_) (fun hc39 => ?_)
  ·
    have hc39' := hc39; try simp only [ba] at hc39'
    refine region_dk 2 [(55, 0), (56, 1)] [[], [0], [0, 1]] (rel [row 0 2 #[.int .i64 0, .int .i64 0] 3,
      is (.pointer (some ⟨(s2 7), 3, none⟩))])
      ⟨row_k, is_k, trivial⟩
      ⟨fun f s W j m p q r d => opr rfl rfl (by simp [go_sem]),
    fun f s W j m p q r d => opv rfl rfl (by simp [go_sem, d.e 3 k44_3]) rfl, trivial⟩ ?_
    intro f45 s45 W45 hB45 g45 hg45
    have fB45 := hB45.f fB44
    have z45 := hB45.below.size
    have b45_0 := hB45.b b44_0
    have b45_1 := hB45.b b44_1
    have b45_2 := hB45.b b44_2
    have q51' := (q48'.below hB45.below)
    have q52' := (q49'.below hB45.below)
    have q53' := (q50'.below hB45.below)
    obtain ⟨r45_0, br45_0⟩ := hB45.is 0
    have lr45_0 := hB45.lr 0 br45_0
    have k45_2 := kt hg45 2 k44_2
    have k45_3 := kt hg45 3 k44_3
    have k45_55 := kt hg45 55 r45_0
    have k45_56 := kt hg45 56 (hB45.is 1)
    obtain ⟨W46, hW46⟩ : ∃ W', W' = W45.setRow (s2 7) #[.int .i64 30, .slice (some ⟨ga25, 0, none⟩) (4) (ca25), .int .i64 (40 + xh), .slice (some ⟨(s45 0), 0, none⟩) (2) (2), .slice (some ⟨ga38_18, 0, none⟩) (2) (ca38_18), .int .i64 9, .bool xo] := ⟨_, rfl⟩
    refine tail_skip (o := _) rfl ⟨rfl, rfl⟩ (run_seg hW46 (fr_ev k45_56) (fr_ev k45_55) b45_2 rfl rfl rfl rfl) ?_
    obtain ⟨fB46, nb46, ot46, z46⟩ := seg_facts hW46 fB45 b45_2 (by omega)
    clear hW46
    have b46_0 := ot46 _ _ (by omega) b45_0
    have b46_1 := ot46 _ _ (by omega) b45_1
    have b46_3 := ot46 _ _ (by omega) br45_0
    have q54' := q51'.otherV ot46 (by omega) z46
    have q55' := q52'.otherV ot46 (by omega) z46
    have q56' := q53'.otherV ot46 (by omega) z46
    refine wpOps_end ?_
    refine hK37 _ _ ?_
    refine wp_seq_k fun K40 hK40 => ?_
    refine region_dk 1 [(57, 0)] [[], [0]] (rel [is (.agg #[.int .i64 30, .slice (some ⟨ga25, 0, none⟩) (4) (ca25), .int .i64 (40 + xh), .slice (some ⟨(s45 0), 0, none⟩) (2) (2), .slice (some ⟨ga38_18, 0, none⟩) (2) (ca38_18), .int .i64 9, .bool xo])])
      ⟨is_k, trivial⟩
      ⟨fun f s W j m p q r d => opv rfl rfl (by simp [go_sem, d.e 3 k45_3, cl (blk_below nb46 j) 0, cl (blk_below nb46 j) 1, cl (blk_below nb46 j) 2, cl (blk_below nb46 j) 3, cl (blk_below nb46 j) 4, cl (blk_below nb46 j) 5, cl (blk_below nb46 j) 6]) rfl, trivial⟩ ?_
    intro f47 s47 W47 hB47 g47 hg47
    have fB47 := hB47.f fB46
    have z47 := hB47.below.size
    have b47_0 := hB47.b b46_0
    have b47_1 := hB47.b b46_1
    have b47_2 := hB47.b nb46
    have b47_3 := hB47.b b46_3
    have q57' := (q54'.below hB47.below)
    have q58' := (q55'.below hB47.below)
    have q59' := (q56'.below hB47.below)
    have k47_2 := kt hg47 2 k45_2
    have k47_57 := kt hg47 57 (hB47.is 0)
    obtain ⟨W48, hW48⟩ : ∃ W', W' = W47.setRow (s1 1) #[.int .i64 30, .slice (some ⟨ga25, 0, none⟩) (4) (ca25), .int .i64 (40 + xh), .slice (some ⟨(s45 0), 0, none⟩) (2) (2), .slice (some ⟨ga38_18, 0, none⟩) (2) (ca38_18), .int .i64 9, .bool xo] := ⟨_, rfl⟩
    refine tail_skip (o := _) rfl ⟨rfl, rfl⟩ (run_seg hW48 (fr_ev k47_2) (fr_ev k47_57) b47_1 rfl rfl rfl rfl) ?_
    obtain ⟨fB48, nb48, ot48, z48⟩ := seg_facts hW48 fB47 b47_1 (by omega)
    clear hW48
    have b48_0 := ot48 _ _ (by omega) b47_0
    have b48_2 := ot48 _ _ (by omega) b47_2
    have b48_3 := ot48 _ _ (by omega) b47_3
    have q60' := q57'.otherV ot48 (by omega) z48
    have q61' := q58'.otherV ot48 (by omega) z48
    have q62' := q59'.otherV ot48 (by omega) z48
    refine wpOps_end ?_
    refine hK40 _ _ ?_
    refine wp_ret ?_
    refine leave_gen (v := .agg #[.int .i64 30, .slice (some ⟨ga25, 0, none⟩) (4) (ca25), .int .i64 (40 + xh), .slice (some ⟨(s45 0), 0, none⟩) (2) (2), .slice (some ⟨ga38_18, 0, none⟩) (2) (ca38_18), .int .i64 9, .bool xo]) (.inr rfl) (by simp [results, Try.results24, go_sem, frv 58 k47_2, cl nb48 0, cl nb48 1, cl nb48 2, cl nb48 3, cl nb48 4, cl nb48 5, cl nb48 6]) ?_
    subst hc39
    exact ⟨_, rfl, ⟨_, _, _, _, _, _, rfl, own_row q60' (by have := fB1.size; omega), ownI_lit (xs := [0, 0]) b48_3 (by omega) rfl rfl, own_row q62' (by have := fB1.size; omega)⟩, fB48⟩
  ·
    have hc39' := hc39; try simp only [ba] at hc39'
    refine wp_skip ?_
    refine hK37 _ _ ?_
    refine wp_seq_k fun K41 hK41 => ?_
    refine region_dk 1 [(57, 0)] [[], [0]] (rel [is (.agg #[.int .i64 30, .slice (some ⟨ga25, 0, none⟩) (4) (ca25), .int .i64 (40 + xh), .slice (some ⟨ga38_8, 0, none⟩) (2) (ca38_8), .slice (some ⟨ga38_18, 0, none⟩) (2) (ca38_18), .int .i64 9, .bool xo])])
      ⟨is_k, trivial⟩
      ⟨fun f s W j m p q r d => opv rfl rfl (by simp [go_sem, d.e 3 k44_3, cl (blk_below b44_2 j) 0, cl (blk_below b44_2 j) 1, cl (blk_below b44_2 j) 2, cl (blk_below b44_2 j) 3, cl (blk_below b44_2 j) 4, cl (blk_below b44_2 j) 5, cl (blk_below b44_2 j) 6]) rfl, trivial⟩ ?_
    intro f49 s49 W49 hB49 g49 hg49
    have fB49 := hB49.f fB44
    have z49 := hB49.below.size
    have b49_0 := hB49.b b44_0
    have b49_1 := hB49.b b44_1
    have b49_2 := hB49.b b44_2
    have q63' := (q48'.below hB49.below)
    have q64' := (q49'.below hB49.below)
    have q65' := (q50'.below hB49.below)
    have k49_2 := kt hg49 2 k44_2
    have k49_57 := kt hg49 57 (hB49.is 0)
    obtain ⟨W50, hW50⟩ : ∃ W', W' = W49.setRow (s1 1) #[.int .i64 30, .slice (some ⟨ga25, 0, none⟩) (4) (ca25), .int .i64 (40 + xh), .slice (some ⟨ga38_8, 0, none⟩) (2) (ca38_8), .slice (some ⟨ga38_18, 0, none⟩) (2) (ca38_18), .int .i64 9, .bool xo] := ⟨_, rfl⟩
    refine tail_skip (o := _) rfl ⟨rfl, rfl⟩ (run_seg hW50 (fr_ev k49_2) (fr_ev k49_57) b49_1 rfl rfl rfl rfl) ?_
    obtain ⟨fB50, nb50, ot50, z50⟩ := seg_facts hW50 fB49 b49_1 (by omega)
    clear hW50
    have b50_0 := ot50 _ _ (by omega) b49_0
    have b50_2 := ot50 _ _ (by omega) b49_2
    have q66' := q63'.otherV ot50 (by omega) z50
    have q67' := q64'.otherV ot50 (by omega) z50
    have q68' := q65'.otherV ot50 (by omega) z50
    refine wpOps_end ?_
    refine hK41 _ _ ?_
    refine wp_ret ?_
    refine leave_gen (v := .agg #[.int .i64 30, .slice (some ⟨ga25, 0, none⟩) (4) (ca25), .int .i64 (40 + xh), .slice (some ⟨ga38_8, 0, none⟩) (2) (ca38_8), .slice (some ⟨ga38_18, 0, none⟩) (2) (ca38_18), .int .i64 9, .bool xo]) (.inr rfl) (by simp [results, Try.results24, go_sem, frv 58 k49_2, cl nb50 0, cl nb50 1, cl nb50 2, cl nb50 3, cl nb50 4, cl nb50 5, cl nb50 6]) ?_
    subst hc39
    exact ⟨_, rfl, ⟨_, _, _, _, _, _, rfl, own_row q66' (by have := fB1.size; omega), own_row q67' (by have := fB1.size; omega), own_row q68' (by have := fB1.size; omega)⟩, fB50⟩
end Go.Proofs.Ythnediamopehfaa
