/- Part of the proof: what the claim leans on. -/
import Derived.Test.YthnediamopehfaaWAV
import Derived.Test.YthnediamopehfaaWAW
import Derived.Test.YthnediamopehfaaWAX
set_option linter.unusedSimpArgs false
set_option linter.unusedVariables false
namespace Go.Proofs.Ythnediamopehfaa
open Go.RowKit
set_option maxRecDepth 100000 in
set_option maxHeartbeats 2000000 in
theorem closes_false (l1 h1 l2 h2 l3 h3 l4 h4 l5 h5 : Int) (wo : Bool) (hw : WishIn ⟨(l1, h1), (l2, h2), (l3, h3), (l4, h4), (l5, h5), wo⟩) (c off p0 p1 p2 p3 tab hh slot v0 v1 v2 v3 : Int)  (q0 o0 m0 q1 o1 m1 bp ox cp : Nat) (w : World) (hP : Ii w (some ⟨bp, ox, none⟩) 4 cp [p0, p1, p2, p3]) (hpp : ∀ x ∈ [p0, p1, p2, p3], 1 ≤ x ∧ x ≤ 3000) (hI0 : Ii w (some ⟨q0, o0, none⟩) 2 m0 [v0, v1]) (hv0 : 0 ≤ v0) (hv0' : v0 ≤ 3000) (hv1 : 0 ≤ v1) (hv1' : v1 ≤ 3000) (hI1 : Ii w (some ⟨q1, o1, none⟩) 2 m1 [v2, v3]) (hv2 : 0 ≤ v2) (hv2' : v2 ≤ 3000) (hv3 : 0 ≤ v3) (hv3' : v3 ≤ 3000) (hc1 : 0 ≤ c) (hc2 : c ≤ 100000) (ho1 : 0 ≤ off) (ho2 : off ≤ 5) (hh1 : 1 ≤ hh) (hh2 : hh ≤ 3000) (hs1 : 0 ≤ slot) (hs2 : slot ≤ 20) (hwo : wo = false) :
  Calls Try.prog 55 #[.agg #[.int .i64 tab, .slice (some ⟨bp, ox, none⟩) (4) (cp), .int .i64 hh, .slice (some ⟨q1, o1, none⟩) (2) (m1), .slice (some ⟨q0, o0, none⟩) (2) (m0), .int .i64 slot, .bool false, .int .i64 off], .agg #[.int .i64 l1, .int .i64 h1, .int .i64 l2, .int .i64 h2, .int .i64 l3, .int .i64 h3, .int .i64 l4, .int .i64 h4, .int .i64 l5, .int .i64 h5, .bool wo], .int .i64 c] w (fun e w' => e = .returned (.bool (closesOf ⟨tab, [p0, p1, p2, p3], hh, [v2, v3], [v0, v1], slot, false⟩ ⟨(l1, h1), (l2, h2), (l3, h3), (l4, h4), (l5, h5), wo⟩ off c)) ∧ Below w.heap.size w w') := by
 have hne : (false != wo) = false := by rw [hwo]; rfl
 have ho : (false == wo) = true := by rw [hwo]; rfl
 refine calls_fr Try.func55 Try.ntmps55 rfl rfl fun g hg => ?_
 have k0 : g 0 = .agg #[.int .i64 tab, .slice (some ⟨bp, ox, none⟩) (4) (cp), .int .i64 hh, .slice (some ⟨q1, o1, none⟩) (2) (m1), .slice (some ⟨q0, o0, none⟩) (2) (m0), .int .i64 slot, .bool false, .int .i64 off] := hg 0
 have k1 : g 1 = .agg #[.int .i64 l1, .int .i64 h1, .int .i64 l2, .int .i64 h2, .int .i64 l3, .int .i64 h3, .int .i64 l4, .int .i64 h4, .int .i64 l5, .int .i64 h5, .bool wo] := hg 1
 have k2 : g 2 = .int .i64 c := hg 2
 clear hg
 have fB0 : Below w.heap.size w w := Below.refl _ _
 refine wp_seq_k fun K1 hK1 => ?_
 refine region_dk 4 [(3, 0), (4, 1), (5, 2), (6, 3)] [[], [], [], []] (rel [bx 0 #[.int .i64 tab, .slice (some ⟨bp, ox, none⟩) (4) (cp), .int .i64 hh, .slice (some ⟨q1, o1, none⟩) (2) (m1), .slice (some ⟨q0, o0, none⟩) (2) (m0), .int .i64 slot, .bool false, .int .i64 off] 104,
   bx 1 #[.int .i64 l1, .int .i64 h1, .int .i64 l2, .int .i64 h2, .int .i64 l3, .int .i64 h3, .int .i64 l4, .int .i64 h4, .int .i64 l5, .int .i64 h5, .bool wo] 69,
   bx 2 #[.int .i64 c] 3,
   is (.bool false)])
  ⟨bx_k, bx_k, bx_k, is_k, trivial⟩
  ⟨fun f s W i j k l m a => opb rfl rfl (by simp [go_sem, a.e 0 k0]),
  fun f s W i j k l m a => opb rfl rfl (by simp [go_sem, a.e 1 k1]),
  fun f s W i j k l m a => opb rfl rfl (by simp [go_sem, a.e 2 k2]),
  fun f s W i j k l m a => opv rfl rfl (by simp [go_sem]) rfl, trivial⟩ ?_
 intro f1 s1 W1 hB1 g1 hg1
 have fB1 := hB1.f fB0
 have z1 := hB1.below.size
 obtain ⟨r1_0, br1_0⟩ := hB1.is 0
 have lr1_0 := hB1.lr 0 br1_0
 obtain ⟨r1_1, br1_1⟩ := hB1.is 1
 have lr1_1 := hB1.lr 1 br1_1
 obtain ⟨r1_2, br1_2⟩ := hB1.is 2
 have lr1_2 := hB1.lr 2 br1_2
 have ne1_0_1 : s1 0 ≠ s1 1 := hB1.ne 0 1 (by decide) (by decide) (by decide) (fun _ _ _ h => lt_of_blk h.2) (fun _ _ _ h => lt_of_blk h.2)
 have ne1_0_2 : s1 0 ≠ s1 2 := hB1.ne 0 2 (by decide) (by decide) (by decide) (fun _ _ _ h => lt_of_blk h.2) (fun _ _ _ h => lt_of_blk h.2)
 have ne1_1_2 : s1 1 ≠ s1 2 := hB1.ne 1 2 (by decide) (by decide) (by decide) (fun _ _ _ h => lt_of_blk h.2) (fun _ _ _ h => lt_of_blk h.2)
 refine hK1 _ _ ?_
 have k1_3 := kt hg1 3 r1_0
 have k1_4 := kt hg1 4 r1_1
 have k1_5 := kt hg1 5 r1_2
 have k1_6 := kt hg1 6 (hB1.is 3)
 refine wp_seq_k fun K2 hK2 => ?_
 refine wp_seq_k fun K3 hK3 => ?_
 refine region_dk 7 [(11, 0), (12, 1), (13, 2), (14, 3), (15, 4), (16, 5), (17, 6)] [[], [0], [0, 1], [0, 1, 2], [], [4], [0, 1, 2, 3, 4, 5]] (rel [is (.pointer (some ⟨(s1 0), 0, none⟩)),
   is (.pointer (some ⟨(s1 0), 0, none⟩)),
   is (.pointer (some ⟨(s1 0), 6, none⟩)),
   is (.bool false),
   is (.pointer (some ⟨(s1 1), 10, none⟩)),
   is (.bool wo),
   is (.bool (false != wo))])
  ⟨is_k, is_k, is_k, is_k, is_k, is_k, is_k, trivial⟩
  ⟨fun f s W i j k l m a => opv rfl rfl (by simp [go_sem, a.e 3 k1_3]) rfl,
  fun f s W i j k l m a => opv rfl rfl (by simp [go_sem, a.e 11 (j 0 rfl)]) rfl,
  fun f s W i j k l m a => opv rfl rfl (by simp [go_sem, a.e 12 (j 1 rfl)]) rfl,
  fun f s W i j k l m a => opv rfl rfl (by simp [go_sem, a.e 13 (j 2 rfl), cb br1_0 i 6]) rfl,
  fun f s W i j k l m a => opv rfl rfl (by simp [go_sem, a.e 4 k1_4]) rfl,
  fun f s W i j k l m a => opv rfl rfl (by simp [go_sem, a.e 15 (j 4 rfl), cb br1_1 i 10]) rfl,
  fun f s W i j k l m a => opv rfl rfl (by simp [go_sem, a.e 14 (j 3 rfl), a.e 16 (j 5 rfl)]) rfl, trivial⟩ ?_
 intro f2 s2 W2 hB2 g2 hg2
 have fB2 := hB2.f fB1
 have z2 := hB2.below.size
 have b2_0 := hB2.b br1_0
 have b2_1 := hB2.b br1_1
 have b2_2 := hB2.b br1_2
 refine hK3 _ _ ?_
 have k2_3 := kt hg2 3 k1_3
 have k2_4 := kt hg2 4 k1_4
 have k2_5 := kt hg2 5 k1_5
 have k2_6 := kt hg2 6 k1_6
 have k2_17 := kt hg2 17 (hB2.is 6)
 have hc4 : (fr 65 g2).eval (.tmp 17) = .bool false := ((fr_eval rfl).trans k2_17).trans (by rw [hne])
 refine wp_cond_false (hc4) ?_
 refine wp_skip ?_
 refine hK2 _ _ ?_
 refine wp_seq_k fun K5 hK5 => ?_
 refine region_dk 6 [(18, 0), (19, 1), (20, 2), (21, 3), (22, 4), (7, 5)] [[], [0], [0, 1], [0, 1, 2], [0, 1, 2, 3], [], [0, 1, 2, 3, 4, 5]] (rel [is (.pointer (some ⟨(s1 0), 0, none⟩)),
   is (.pointer (some ⟨(s1 0), 0, none⟩)),
   is (.pointer (some ⟨(s1 0), 4, none⟩)),
   is (.slice (some ⟨q0, o0, none⟩) (2) (m0)),
   row 4 1 #[.slice (some ⟨q0, o0, none⟩) (2) (m0)] 22,
   bx 5 #[.slice (none) (0) (0)] 107])
  ⟨is_k, is_k, is_k, is_k, row_k, bx_k, trivial⟩
  ⟨fun f s W i j k l m a => opv rfl rfl (by simp [go_sem, a.e 3 k2_3]) rfl,
  fun f s W i j k l m a => opv rfl rfl (by simp [go_sem, a.e 18 (j 0 rfl)]) rfl,
  fun f s W i j k l m a => opv rfl rfl (by simp [go_sem, a.e 19 (j 1 rfl)]) rfl,
  fun f s W i j k l m a => opv rfl rfl (by simp [go_sem, a.e 20 (j 2 rfl), cb b2_0 i 4]) rfl,
  fun f s W i j k l m a => opr rfl rfl (by simp [go_sem, a.e 21 (j 3 rfl)]),
  fun f s W i j k l m a => opb rfl rfl (by simp [go_sem]), trivial⟩ ?_
 intro f3 s3 W3 hB3 g3 hg3
 have fB3 := hB3.f fB2
 have z3 := hB3.below.size
 have b3_0 := hB3.b b2_0
 have b3_1 := hB3.b b2_1
 have b3_2 := hB3.b b2_2
 obtain ⟨r3_4, br3_4⟩ := hB3.is 4
 have lr3_4 := hB3.lr 4 br3_4
 obtain ⟨r3_5, br3_5⟩ := hB3.is 5
 have lr3_5 := hB3.lr 5 br3_5
 have ne3_4_5 : s3 4 ≠ s3 5 := hB3.ne 4 5 (by decide) (by decide) (by decide) (fun _ _ _ h => lt_of_blk h.2) (fun _ _ _ h => lt_of_blk h.2)
 have k3_3 := kt hg3 3 k2_3
 have k3_4 := kt hg3 4 k2_4
 have k3_5 := kt hg3 5 k2_5
 have k3_6 := kt hg3 6 k2_6
 have k3_22 := kt hg3 22 r3_4
 have k3_7 := kt hg3 7 r3_5
 obtain ⟨W4, hW4⟩ : ∃ W', W' = W3.setRow (s3 5) #[.slice (some ⟨(s3 4), 0, none⟩) (1) (1)] := ⟨_, rfl⟩
 refine tail_skip (o := _) rfl ⟨rfl, rfl⟩ (run_seg hW4 (fr_ev k3_7) (fr_ev k3_22) br3_5 rfl rfl rfl rfl) ?_
 obtain ⟨fB4, nb4, ot4, z4⟩ := seg_facts hW4 fB3 br3_5 (by omega)
 clear hW4
 have b4_0 := ot4 _ _ (by omega) b3_0
 have b4_1 := ot4 _ _ (by omega) b3_1
 have b4_2 := ot4 _ _ (by omega) b3_2
 have b4_3 := ot4 _ _ (by omega) br3_4
 refine wpOps_end ?_
 refine hK5 _ _ ?_
 refine wp_seq_k fun K6 hK6 => ?_
 refine wp_seq_k fun K7 hK7 => ?_
 refine region_dk 5 [(23, 0), (24, 1), (25, 2), (26, 3), (27, 4)] [[], [0], [0, 1], [0, 1, 2], [0, 1, 2, 3]] (rel [is (.pointer (some ⟨(s1 0), 0, none⟩)),
   is (.pointer (some ⟨(s1 0), 0, none⟩)),
   is (.pointer (some ⟨(s1 0), 6, none⟩)),
   is (.bool false),
   is (.bool true)])
  ⟨is_k, is_k, is_k, is_k, is_k, trivial⟩
  ⟨fun f s W i j k l m a => opv rfl rfl (by simp [go_sem, a.e 3 k3_3]) rfl,
  fun f s W i j k l m a => opv rfl rfl (by simp [go_sem, a.e 23 (j 0 rfl)]) rfl,
  fun f s W i j k l m a => opv rfl rfl (by simp [go_sem, a.e 24 (j 1 rfl)]) rfl,
  fun f s W i j k l m a => opv rfl rfl (by simp [go_sem, a.e 25 (j 2 rfl), cb b4_0 i 6]) rfl,
  fun f s W i j k l m a => opv rfl rfl (by simp [go_sem, a.e 26 (j 3 rfl)]) rfl, trivial⟩ ?_
 intro f5 s5 W5 hB5 g5 hg5
 have fB5 := hB5.f fB4
 have z5 := hB5.below.size
 have b5_0 := hB5.b b4_0
 have b5_1 := hB5.b b4_1
 have b5_2 := hB5.b b4_2
 have b5_3 := hB5.b b4_3
 have b5_4 := hB5.b nb4
 refine hK7 _ _ ?_
 have k5_3 := kt hg5 3 k3_3
 have k5_4 := kt hg5 4 k3_4
 have k5_5 := kt hg5 5 k3_5
 have k5_6 := kt hg5 6 k3_6
 have k5_7 := kt hg5 7 k3_7
 have k5_27 := kt hg5 27 (hB5.is 4)
 refine wp_cond_true ((fr_eval rfl).trans k5_27) ?_
 refine region_dk 7 [(28, 0), (29, 1), (30, 2), (31, 3), (32, 4), (33, 5), (34, 6)] [[], [], [1], [1, 2], [1, 2, 3], [1, 2, 3, 4], [0, 1, 2, 3, 4, 5], [0, 1, 2, 3, 4, 5, 6]] (rel [is (.slice (some ⟨(s3 4), 0, none⟩) (1) (1)),
   is (.pointer (some ⟨(s1 0), 0, none⟩)),
   is (.pointer (some ⟨(s1 0), 0, none⟩)),
   is (.pointer (some ⟨(s1 0), 3, none⟩)),
   is (.slice (some ⟨q1, o1, none⟩) (2) (m1)),
   row 5 1 #[.slice (some ⟨q1, o1, none⟩) (2) (m1)] 22,
   ab fun v W => IsTwo W5.heap.size (.slice (some ⟨q0, o0, none⟩) (2) (m0)) (.slice (some ⟨q1, o1, none⟩) (2) (m1)) v W])
  ⟨is_k, is_k, is_k, is_k, is_k, row_k, ab_k fun v W W' hb h => h.below hb, trivial⟩
  ⟨fun f s W i j k l m a => opv rfl rfl (by simp [go_sem, a.e 7 k5_7, cb b5_4 i 0]) rfl,
  fun f s W i j k l m a => opv rfl rfl (by simp [go_sem, a.e 3 k5_3]) rfl,
  fun f s W i j k l m a => opv rfl rfl (by simp [go_sem, a.e 29 (j 1 rfl)]) rfl,
  fun f s W i j k l m a => opv rfl rfl (by simp [go_sem, a.e 30 (j 2 rfl)]) rfl,
  fun f s W i j k l m a => opv rfl rfl (by simp [go_sem, a.e 31 (j 3 rfl), cb b5_0 i 3]) rfl,
  fun f s W i j k l m a => opr rfl rfl (by simp [go_sem, a.e 32 (j 4 rfl)]),
  fun f s W i j k l m a => by have q := below_trans fB5 i; obtain ⟨v_, W_, r_, b_, i_⟩ := grow2_run _ W _ _ (.slice (some ⟨q0, o0, none⟩) (2) (m0)) (.slice (some ⟨q1, o1, none⟩) (2) (m1)) (blk_below b5_3 i) (j 5 rfl).2 W5.heap.size i.size; exact opDo_value rfl rfl (run_appendOp (a.v 28 (j 0 rfl)) (a.v 33 (j 5 rfl).1) r_) b_ i_, trivial⟩ ?_
 intro f6 s6 W6 hB6 g6 hg6
 have fB6 := hB6.f fB5
 have z6 := hB6.below.size
 have b6_0 := hB6.b b5_0
 have b6_1 := hB6.b b5_1
 have b6_2 := hB6.b b5_2
 have b6_3 := hB6.b b5_3
 have b6_4 := hB6.b b5_4
 obtain ⟨r6_5, br6_5⟩ := hB6.is 5
 have lr6_5 := hB6.lr 5 br6_5
 obtain ⟨g1', c2', r6_6, q3', q4'⟩ := hB6.is 6
 have k6_3 := kt hg6 3 k5_3
 have k6_4 := kt hg6 4 k5_4
 have k6_5 := kt hg6 5 k5_5
 have k6_6 := kt hg6 6 k5_6
 have k6_7 := kt hg6 7 k5_7
 have k6_34 := kt hg6 34 r6_6
 obtain ⟨W7, hW7⟩ : ∃ W', W' = W6.setRow (s3 5) #[.slice (some ⟨g1', 0, none⟩) (2) (c2')] := ⟨_, rfl⟩
 refine tail_skip (o := _) rfl ⟨rfl, rfl⟩ (run_seg hW7 (fr_ev k6_7) (fr_ev k6_34) b6_4 rfl rfl rfl rfl) ?_
 obtain ⟨fB7, nb7, ot7, z7⟩ := seg_facts hW7 fB6 b6_4 (by omega)
 clear hW7
 have b7_0 := ot7 _ _ (by omega) b6_0
 have b7_1 := ot7 _ _ (by omega) b6_1
 have b7_2 := ot7 _ _ (by omega) b6_2
 have b7_3 := ot7 _ _ (by omega) b6_3
 have b7_5 := ot7 _ _ (by omega) br6_5
 have q5' := q3'.other ot7 (by omega) z7
 refine wpOps_end ?_
 refine hK6 _ _ ?_
 refine wp_seq_k fun K9 hK9 => ?_
 refine region_dk 2 [(35, 0), (8, 1)] [[], [0]] (rel [is (.func (.func 77) #[] #[.pointer (some ⟨(s1 0), 0, none⟩), .pointer (some ⟨(s1 2), 0, none⟩), .pointer (some ⟨(s1 1), 0, none⟩), .pointer (some ⟨(s3 5), 0, none⟩)]),
   is (.func (.func 77) #[] #[.pointer (some ⟨(s1 0), 0, none⟩), .pointer (some ⟨(s1 2), 0, none⟩), .pointer (some ⟨(s1 1), 0, none⟩), .pointer (some ⟨(s3 5), 0, none⟩)])])
  ⟨is_k, is_k, trivial⟩
  ⟨fun f s W i j k l m a => opv rfl rfl (by simp [go_sem, a.e 3 k6_3, a.e 5 k6_5, a.e 4 k6_4, a.e 7 k6_7]) rfl,
  fun f s W i j k l m a => opv rfl rfl (by simp [go_sem, a.e 35 (j 0 rfl)]) rfl, trivial⟩ ?_
 intro f8 s8 W8 hB8 g8 hg8
 have fB8 := hB8.f fB7
 have z8 := hB8.below.size
 have b8_0 := hB8.b b7_0
 have b8_1 := hB8.b b7_1
 have b8_2 := hB8.b b7_2
 have b8_3 := hB8.b b7_3
 have b8_4 := hB8.b nb7
 have b8_5 := hB8.b b7_5
 have q6' := (q5'.below hB8.below)
 refine hK9 _ _ ?_
 have k8_3 := kt hg8 3 k6_3
 have k8_4 := kt hg8 4 k6_4
 have k8_5 := kt hg8 5 k6_5
 have k8_6 := kt hg8 6 k6_6
 have k8_8 := kt hg8 8 (hB8.is 1)
 refine wp_seq_k fun K10 hK10 => ?_
 refine wp_seq_k fun K11 hK11 => ?_
 refine region_dk 1 [(36, 0)] [[]] (rel [is (.int .i64 0)])
  ⟨is_k, trivial⟩
  ⟨fun f s W i j k l m a => opv rfl rfl (by simp [go_sem]) rfl, trivial⟩ ?_
 intro f9 s9 W9 hB9 g9 hg9
 have fB9 := hB9.f fB8
 have z9 := hB9.below.size
 have b9_0 := hB9.b b8_0
 have b9_1 := hB9.b b8_1
 have b9_2 := hB9.b b8_2
 have b9_3 := hB9.b b8_3
 have b9_4 := hB9.b b8_4
 have b9_5 := hB9.b b8_5
 have q7' := (q6'.below hB9.below)
 refine hK11 _ _ ?_
 have k9_3 := kt hg9 3 k8_3
 have k9_4 := kt hg9 4 k8_4
 have k9_5 := kt hg9 5 k8_5
 have k9_6 := kt hg9 6 k8_6
 have k9_8 := kt hg9 8 k8_8
 have k9_36 := kt hg9 36 (hB9.is 0)
 refine wp_block ?_
 refine wp_loop_rounds 5 ?_
 rw [rounds_succ]
 refine wp_seq_k fun K12 hK12 => ?_
 refine region_dk 1 [(37, 0)] [[]] (rel [is (.bool true)])
  ⟨is_k, trivial⟩
  ⟨fun f s W i j k l m a => opv rfl rfl (by simp [go_sem, a.e 36 k9_36]) rfl, trivial⟩ ?_
 intro f10 s10 W10 hB10 g10 hg10
 have fB10 := hB10.f fB9
 have z10 := hB10.below.size
 have b10_0 := hB10.b b9_0
 have b10_1 := hB10.b b9_1
 have b10_2 := hB10.b b9_2
 have b10_3 := hB10.b b9_3
 have b10_4 := hB10.b b9_4
 have b10_5 := hB10.b b9_5
 have q8' := (q7'.below hB10.below)
 refine hK12 _ _ ?_
 have k10_3 := kt hg10 3 k9_3
 have k10_4 := kt hg10 4 k9_4
 have k10_5 := kt hg10 5 k9_5
 have k10_6 := kt hg10 6 k9_6
 have k10_8 := kt hg10 8 k9_8
 have k10_36 := kt hg10 36 k9_36
 have k10_37 := kt hg10 37 (hB10.is 0)
 refine wp_seq_k fun K13 hK13 => ?_
 refine wp_cond_true ((fr_eval rfl).trans k10_37) ?_
 refine wp_skip ?_
 refine hK13 _ _ ?_
 refine wp_seq_k fun K15 hK15 => ?_
 refine wp_block ?_
 refine wp_seq_k fun K16 hK16 => ?_
 refine region_dk 2 [(38, 0), (9, 1)] [[], [0]] (rel [is (.int .i64 0),
   is (.int .i64 0)])
  ⟨is_k, is_k, trivial⟩
  ⟨fun f s W i j k l m a => opv rfl rfl (by simp [go_sem, a.e 36 k10_36]) rfl,
  fun f s W i j k l m a => opv rfl rfl (by simp [go_sem, a.e 38 (j 0 rfl)]) rfl, trivial⟩ ?_
 intro f11 s11 W11 hB11 g11 hg11
 have fB11 := hB11.f fB10
 have z11 := hB11.below.size
 have b11_0 := hB11.b b10_0
 have b11_1 := hB11.b b10_1
 have b11_2 := hB11.b b10_2
 have b11_3 := hB11.b b10_3
 have b11_4 := hB11.b b10_4
 have b11_5 := hB11.b b10_5
 have q9' := (q8'.below hB11.below)
 refine hK16 _ _ ?_
 have k11_3 := kt hg11 3 k10_3
 have k11_4 := kt hg11 4 k10_4
 have k11_5 := kt hg11 5 k10_5
 have k11_6 := kt hg11 6 k10_6
 have k11_8 := kt hg11 8 k10_8
 have k11_36 := kt hg11 36 k10_36
 have k11_37 := kt hg11 37 k10_37
 have k11_9 := kt hg11 9 (hB11.is 1)
 refine wp_seq_k fun K17 hK17 => ?_
 refine region_dk 4 [(39, 0), (40, 1), (41, 2), (42, 3)] [[], [], [0, 1], [0, 1, 2]] (rel [is (.func (.func 77) #[] #[.pointer (some ⟨(s1 0), 0, none⟩), .pointer (some ⟨(s1 2), 0, none⟩), .pointer (some ⟨(s1 1), 0, none⟩), .pointer (some ⟨(s3 5), 0, none⟩)]),
   is (.int .i64 0),
   is (.bool (someB 1 p0 off (fun p => okP ⟨(l1, h1), (l2, h2), (l3, h3), (l4, h4), (l5, h5), wo⟩ c off p [(v0, v1), (v2, v3)] 0))),
   is (.bool (!(someB 1 p0 off (fun p => okP ⟨(l1, h1), (l2, h2), (l3, h3), (l4, h4), (l5, h5), wo⟩ c off p [(v0, v1), (v2, v3)] 0))))])
  ⟨is_k, is_k, is_k, is_k, trivial⟩
  ⟨fun f s W i j k l m a => opv rfl rfl (by simp [go_sem, a.e 8 k11_8]) rfl,
  fun f s W i j k l m a => opv rfl rfl (by simp [go_sem, a.e 9 k11_9]) rfl,
  fun f s W i j k l m a => by have q := below_trans fB11 i; exact opc rfl rfl (by simp [go_sem, a.e 40 (j 1 rfl), a.e 39 (j 0 rfl)]) (closesI_0_2 (.int .i64 tab) (.int .i64 hh) (.slice (some ⟨q1, o1, none⟩) (2) (m1)) (.slice (some ⟨q0, o0, none⟩) (2) (m0)) (.int .i64 slot) (.bool false) l1 h1 l2 h2 l3 h3 l4 h4 l5 h5 wo hw c off p0 p1 p2 p3 v0 v1 v2 v3 q0 o0 m0 q1 o1 m1 bp ox cp g1' c2' (s1 0) (s1 2) (s1 1) (s3 5) W (hP.below q (Nat.le_refl _)) hpp ((q9'.below i)).1 ((q9'.below i)).2.1 (hI0.below q (Nat.le_refl _)) hv0 hv0' hv1 hv1' ((q9'.below i)).2.2 (hI1.below q (Nat.le_refl _)) hv2 hv2' hv3 hv3' hc1 hc2 ho1 ho2 (blk_below b11_0 i) (blk_below b11_2 i) (blk_below b11_1 i) (blk_below b11_4 i)),
  fun f s W i j k l m a => opv rfl rfl (by simp [go_sem, a.e 41 (j 2 rfl)]) rfl, trivial⟩ ?_
 intro f12 s12 W12 hB12 g12 hg12
 have fB12 := hB12.f fB11
 have z12 := hB12.below.size
 have b12_0 := hB12.b b11_0
 have b12_1 := hB12.b b11_1
 have b12_2 := hB12.b b11_2
 have b12_3 := hB12.b b11_3
 have b12_4 := hB12.b b11_4
 have b12_5 := hB12.b b11_5
 have q10' := (q9'.below hB12.below)
 refine hK17 _ _ ?_
 have k12_3 := kt hg12 3 k11_3
 have k12_4 := kt hg12 4 k11_4
 have k12_5 := kt hg12 5 k11_5
 have k12_6 := kt hg12 6 k11_6
 have k12_8 := kt hg12 8 k11_8
 have k12_36 := kt hg12 36 k11_36
 have k12_37 := kt hg12 37 k11_37
 have k12_9 := kt hg12 9 k11_9
 have k12_42 := kt hg12 42 (hB12.is 3)
 refine wp_cond_split (t := !(someB 1 p0 off (fun p => okP ⟨(l1, h1), (l2, h2), (l3, h3), (l4, h4), (l5, h5), wo⟩ c off p [(v0, v1), (v2, v3)] 0))) ((fr_eval rfl).trans k12_42) (fun hc18 => ?_) (fun hc18 => ?_)
 ·
  have hc18' := hc18; try simp only [ba] at hc18'
  refine wp_seq_k fun K19 hK19 => ?_
  refine region_dk 1 [(6, 0)] [[]] (rel [is (.bool false)])
   ⟨is_k, trivial⟩
   ⟨fun f s W i j k l m a => opv rfl rfl (by simp [go_sem]) rfl, trivial⟩ ?_
  intro f13 s13 W13 hB13 g13 hg13
  have fB13 := hB13.f fB12
  have z13 := hB13.below.size
  have b13_0 := hB13.b b12_0
  have b13_1 := hB13.b b12_1
  have b13_2 := hB13.b b12_2
  have b13_3 := hB13.b b12_3
  have b13_4 := hB13.b b12_4
  have b13_5 := hB13.b b12_5
  have q11' := (q10'.below hB13.below)
  refine hK19 _ _ ?_
  have k13_3 := kt hg13 3 k12_3
  have k13_4 := kt hg13 4 k12_4
  have k13_5 := kt hg13 5 k12_5
  have k13_8 := kt hg13 8 k12_8
  have k13_36 := kt hg13 36 k12_36
  have k13_37 := kt hg13 37 k12_37
  have k13_9 := kt hg13 9 k12_9
  have k13_42 := kt hg13 42 k12_42
  have k13_6 := kt hg13 6 (hB13.is 0)
  refine wp_ret ?_
  refine inBlock_ret (then_ret (then_ret (inBlock_ret (then_ret ?_))))
  refine leave_one (N := 65) (v := .bool false) (.inr rfl) Try.results55 rfl k13_6 ?_
  have e : closesOf ⟨tab, [p0, p1, p2, p3], hh, [v2, v3], [v0, v1], slot, false⟩ ⟨(l1, h1), (l2, h2), (l3, h3), (l4, h4), (l5, h5), wo⟩ off c = ((false == wo) && (someB 1 p0 off (fun p => okP ⟨(l1, h1), (l2, h2), (l3, h3), (l4, h4), (l5, h5), wo⟩ c off p [(v0, v1), (v2, v3)] 0) && (someB 1 p1 off (fun p => okP ⟨(l1, h1), (l2, h2), (l3, h3), (l4, h4), (l5, h5), wo⟩ c off p [(v0, v1), (v2, v3)] 1) && (someB 1 p2 off (fun p => okP ⟨(l1, h1), (l2, h2), (l3, h3), (l4, h4), (l5, h5), wo⟩ c off p [(v0, v1), (v2, v3)] 2) && (someB 1 p3 off (fun p => okP ⟨(l1, h1), (l2, h2), (l3, h3), (l4, h4), (l5, h5), wo⟩ c off p [(v0, v1), (v2, v3)] 3) && (decide (c ≤ 1000 * min 20 (slot + off)) && someB 1 hh off fun n => isInOf n (foldsOf false) c (l3, h3))))))) := rfl
  have t0 := not_t hc18
  exact ⟨ret_bool (by rw [e]; simp only [ho, t0, Bool.true_and, Bool.false_and]), fB13⟩
 ·
  have hc18' := hc18; try simp only [ba] at hc18'
  refine wp_skip ?_
  refine inBlock_normal ?_
  refine hK15 _ _ ?_
  refine region_dk 2 [(43, 0), (36, 1)] [[], [0]] (rel [is (.int .i64 1),
   is (.int .i64 1)])
   ⟨is_k, is_k, trivial⟩
   ⟨fun f s W i j k l m a => opv rfl rfl (by simp [go_sem, a.e 36 ((l 1 36 rfl rfl).trans k12_36), IntWalk.i64_in (1) (by omega)]) rfl,
  fun f s W i j k l m a => opv rfl rfl (by simp [go_sem, a.e 43 (j 0 rfl)]) rfl, trivial⟩ ?_
  intro f14 s14 W14 hB14 g14 hg14
  have fB14 := hB14.f fB12
  have z14 := hB14.below.size
  have b14_0 := hB14.b b12_0
  have b14_1 := hB14.b b12_1
  have b14_2 := hB14.b b12_2
  have b14_3 := hB14.b b12_3
  have b14_4 := hB14.b b12_4
  have b14_5 := hB14.b b12_5
  have q12' := (q10'.below hB14.below)
  refine wpOps_end ?_
  have k14_3 := kt hg14 3 k12_3
  have k14_4 := kt hg14 4 k12_4
  have k14_5 := kt hg14 5 k12_5
  have k14_6 := kt hg14 6 k12_6
  have k14_8 := kt hg14 8 k12_8
  have k14_37 := kt hg14 37 k12_37
  have k14_9 := kt hg14 9 k12_9
  have k14_42 := kt hg14 42 k12_42
  have k14_36 := kt hg14 36 (hB14.is 1)
  refine then_normal ?_
  rw [rounds_succ]
  refine wp_seq_k fun K20 hK20 => ?_
  refine region_dk 1 [(37, 0)] [[]] (rel [is (.bool true)])
   ⟨is_k, trivial⟩
   ⟨fun f s W i j k l m a => opv rfl rfl (by simp [go_sem, a.e 36 k14_36]) rfl, trivial⟩ ?_
  intro f15 s15 W15 hB15 g15 hg15
  have fB15 := hB15.f fB14
  have z15 := hB15.below.size
  have b15_0 := hB15.b b14_0
  have b15_1 := hB15.b b14_1
  have b15_2 := hB15.b b14_2
  have b15_3 := hB15.b b14_3
  have b15_4 := hB15.b b14_4
  have b15_5 := hB15.b b14_5
  have q13' := (q12'.below hB15.below)
  refine hK20 _ _ ?_
  have k15_3 := kt hg15 3 k14_3
  have k15_4 := kt hg15 4 k14_4
  have k15_5 := kt hg15 5 k14_5
  have k15_6 := kt hg15 6 k14_6
  have k15_8 := kt hg15 8 k14_8
  have k15_9 := kt hg15 9 k14_9
  have k15_42 := kt hg15 42 k14_42
  have k15_36 := kt hg15 36 k14_36
  have k15_37 := kt hg15 37 (hB15.is 0)
  refine wp_seq_k fun K21 hK21 => ?_
  refine wp_cond_true ((fr_eval rfl).trans k15_37) ?_
  refine wp_skip ?_
  refine hK21 _ _ ?_
  refine wp_seq_k fun K23 hK23 => ?_
  refine wp_block ?_
  refine wp_seq_k fun K24 hK24 => ?_
  refine region_dk 2 [(38, 0), (9, 1)] [[], [0]] (rel [is (.int .i64 1),
   is (.int .i64 1)])
   ⟨is_k, is_k, trivial⟩
   ⟨fun f s W i j k l m a => opv rfl rfl (by simp [go_sem, a.e 36 k15_36]) rfl,
  fun f s W i j k l m a => opv rfl rfl (by simp [go_sem, a.e 38 (j 0 rfl)]) rfl, trivial⟩ ?_
  intro f16 s16 W16 hB16 g16 hg16
  have fB16 := hB16.f fB15
  have z16 := hB16.below.size
  have b16_0 := hB16.b b15_0
  have b16_1 := hB16.b b15_1
  have b16_2 := hB16.b b15_2
  have b16_3 := hB16.b b15_3
  have b16_4 := hB16.b b15_4
  have b16_5 := hB16.b b15_5
  have q14' := (q13'.below hB16.below)
  refine hK24 _ _ ?_
  have k16_3 := kt hg16 3 k15_3
  have k16_4 := kt hg16 4 k15_4
  have k16_5 := kt hg16 5 k15_5
  have k16_6 := kt hg16 6 k15_6
  have k16_8 := kt hg16 8 k15_8
  have k16_42 := kt hg16 42 k15_42
  have k16_36 := kt hg16 36 k15_36
  have k16_37 := kt hg16 37 k15_37
  have k16_9 := kt hg16 9 (hB16.is 1)
  refine wp_seq_k fun K25 hK25 => ?_
  refine region_dk 4 [(39, 0), (40, 1), (41, 2), (42, 3)] [[], [], [0, 1], [0, 1, 2]] (rel [is (.func (.func 77) #[] #[.pointer (some ⟨(s1 0), 0, none⟩), .pointer (some ⟨(s1 2), 0, none⟩), .pointer (some ⟨(s1 1), 0, none⟩), .pointer (some ⟨(s3 5), 0, none⟩)]),
   is (.int .i64 1),
   is (.bool (someB 1 p1 off (fun p => okP ⟨(l1, h1), (l2, h2), (l3, h3), (l4, h4), (l5, h5), wo⟩ c off p [(v0, v1), (v2, v3)] 1))),
   is (.bool (!(someB 1 p1 off (fun p => okP ⟨(l1, h1), (l2, h2), (l3, h3), (l4, h4), (l5, h5), wo⟩ c off p [(v0, v1), (v2, v3)] 1))))])
   ⟨is_k, is_k, is_k, is_k, trivial⟩
   ⟨fun f s W i j k l m a => opv rfl rfl (by simp [go_sem, a.e 8 k16_8]) rfl,
  fun f s W i j k l m a => opv rfl rfl (by simp [go_sem, a.e 9 k16_9]) rfl,
  fun f s W i j k l m a => by have q := below_trans fB16 i; exact opc rfl rfl (by simp [go_sem, a.e 40 (j 1 rfl), a.e 39 (j 0 rfl)]) (closesI_1_2 (.int .i64 tab) (.int .i64 hh) (.slice (some ⟨q1, o1, none⟩) (2) (m1)) (.slice (some ⟨q0, o0, none⟩) (2) (m0)) (.int .i64 slot) (.bool false) l1 h1 l2 h2 l3 h3 l4 h4 l5 h5 wo hw c off p0 p1 p2 p3 v0 v1 v2 v3 q0 o0 m0 q1 o1 m1 bp ox cp g1' c2' (s1 0) (s1 2) (s1 1) (s3 5) W (hP.below q (Nat.le_refl _)) hpp ((q14'.below i)).1 ((q14'.below i)).2.1 (hI0.below q (Nat.le_refl _)) hv0 hv0' hv1 hv1' ((q14'.below i)).2.2 (hI1.below q (Nat.le_refl _)) hv2 hv2' hv3 hv3' hc1 hc2 ho1 ho2 (blk_below b16_0 i) (blk_below b16_2 i) (blk_below b16_1 i) (blk_below b16_4 i)),
  fun f s W i j k l m a => opv rfl rfl (by simp [go_sem, a.e 41 (j 2 rfl)]) rfl, trivial⟩ ?_
  intro f17 s17 W17 hB17 g17 hg17
  have fB17 := hB17.f fB16
  have z17 := hB17.below.size
  have b17_0 := hB17.b b16_0
  have b17_1 := hB17.b b16_1
  have b17_2 := hB17.b b16_2
  have b17_3 := hB17.b b16_3
  have b17_4 := hB17.b b16_4
  have b17_5 := hB17.b b16_5
  have q15' := (q14'.below hB17.below)
  refine hK25 _ _ ?_
  have k17_3 := kt hg17 3 k16_3
  have k17_4 := kt hg17 4 k16_4
  have k17_5 := kt hg17 5 k16_5
  have k17_6 := kt hg17 6 k16_6
  have k17_8 := kt hg17 8 k16_8
  have k17_36 := kt hg17 36 k16_36
  have k17_37 := kt hg17 37 k16_37
  have k17_9 := kt hg17 9 k16_9
  have k17_42 := kt hg17 42 (hB17.is 3)
  refine wp_cond_split (t := !(someB 1 p1 off (fun p => okP ⟨(l1, h1), (l2, h2), (l3, h3), (l4, h4), (l5, h5), wo⟩ c off p [(v0, v1), (v2, v3)] 1))) ((fr_eval rfl).trans k17_42) (fun hc26 => ?_) (fun hc26 => ?_)
  ·
   have hc26' := hc26; try simp only [ba] at hc26'
   refine wp_seq_k fun K27 hK27 => ?_
   refine region_dk 1 [(6, 0)] [[]] (rel [is (.bool false)])
    ⟨is_k, trivial⟩
    ⟨fun f s W i j k l m a => opv rfl rfl (by simp [go_sem]) rfl, trivial⟩ ?_
   intro f18 s18 W18 hB18 g18 hg18
   have fB18 := hB18.f fB17
   have z18 := hB18.below.size
   have b18_0 := hB18.b b17_0
   have b18_1 := hB18.b b17_1
   have b18_2 := hB18.b b17_2
   have b18_3 := hB18.b b17_3
   have b18_4 := hB18.b b17_4
   have b18_5 := hB18.b b17_5
   have q16' := (q15'.below hB18.below)
   refine hK27 _ _ ?_
   have k18_3 := kt hg18 3 k17_3
   have k18_4 := kt hg18 4 k17_4
   have k18_5 := kt hg18 5 k17_5
   have k18_8 := kt hg18 8 k17_8
   have k18_36 := kt hg18 36 k17_36
   have k18_37 := kt hg18 37 k17_37
   have k18_9 := kt hg18 9 k17_9
   have k18_42 := kt hg18 42 k17_42
   have k18_6 := kt hg18 6 (hB18.is 0)
   refine wp_ret ?_
   refine inBlock_ret (then_ret (then_ret (inBlock_ret (then_ret ?_))))
   refine leave_one (N := 65) (v := .bool false) (.inr rfl) Try.results55 rfl k18_6 ?_
   have e : closesOf ⟨tab, [p0, p1, p2, p3], hh, [v2, v3], [v0, v1], slot, false⟩ ⟨(l1, h1), (l2, h2), (l3, h3), (l4, h4), (l5, h5), wo⟩ off c = ((false == wo) && (someB 1 p0 off (fun p => okP ⟨(l1, h1), (l2, h2), (l3, h3), (l4, h4), (l5, h5), wo⟩ c off p [(v0, v1), (v2, v3)] 0) && (someB 1 p1 off (fun p => okP ⟨(l1, h1), (l2, h2), (l3, h3), (l4, h4), (l5, h5), wo⟩ c off p [(v0, v1), (v2, v3)] 1) && (someB 1 p2 off (fun p => okP ⟨(l1, h1), (l2, h2), (l3, h3), (l4, h4), (l5, h5), wo⟩ c off p [(v0, v1), (v2, v3)] 2) && (someB 1 p3 off (fun p => okP ⟨(l1, h1), (l2, h2), (l3, h3), (l4, h4), (l5, h5), wo⟩ c off p [(v0, v1), (v2, v3)] 3) && (decide (c ≤ 1000 * min 20 (slot + off)) && someB 1 hh off fun n => isInOf n (foldsOf false) c (l3, h3))))))) := rfl
   have t0 := not_f hc18
   have t1 := not_t hc26
   exact ⟨ret_bool (by rw [e]; simp only [ho, t0, t1, Bool.true_and, Bool.false_and]), fB18⟩
  ·
   have hc26' := hc26; try simp only [ba] at hc26'
   refine wp_skip ?_
   refine inBlock_normal ?_
   refine hK23 _ _ ?_
   refine region_dk 2 [(43, 0), (36, 1)] [[], [0]] (rel [is (.int .i64 2),
   is (.int .i64 2)])
    ⟨is_k, is_k, trivial⟩
    ⟨fun f s W i j k l m a => opv rfl rfl (by simp [go_sem, a.e 36 ((l 1 36 rfl rfl).trans k17_36), IntWalk.i64_in (2) (by omega)]) rfl,
  fun f s W i j k l m a => opv rfl rfl (by simp [go_sem, a.e 43 (j 0 rfl)]) rfl, trivial⟩ ?_
   intro f19 s19 W19 hB19 g19 hg19
   have fB19 := hB19.f fB17
   have z19 := hB19.below.size
   have b19_0 := hB19.b b17_0
   have b19_1 := hB19.b b17_1
   have b19_2 := hB19.b b17_2
   have b19_3 := hB19.b b17_3
   have b19_4 := hB19.b b17_4
   have b19_5 := hB19.b b17_5
   have q17' := (q15'.below hB19.below)
   refine wpOps_end ?_
   have k19_3 := kt hg19 3 k17_3
   have k19_4 := kt hg19 4 k17_4
   have k19_5 := kt hg19 5 k17_5
   have k19_6 := kt hg19 6 k17_6
   have k19_8 := kt hg19 8 k17_8
   have k19_37 := kt hg19 37 k17_37
   have k19_9 := kt hg19 9 k17_9
   have k19_42 := kt hg19 42 k17_42
   have k19_36 := kt hg19 36 (hB19.is 1)
   refine then_normal ?_
   rw [rounds_succ]
   refine wp_seq_k fun K28 hK28 => ?_
   refine region_dk 1 [(37, 0)] [[]] (rel [is (.bool true)])
    ⟨is_k, trivial⟩
    ⟨fun f s W i j k l m a => opv rfl rfl (by simp [go_sem, a.e 36 k19_36]) rfl, trivial⟩ ?_
   intro f20 s20 W20 hB20 g20 hg20
   have fB20 := hB20.f fB19
   have z20 := hB20.below.size
   have b20_0 := hB20.b b19_0
   have b20_1 := hB20.b b19_1
   have b20_2 := hB20.b b19_2
   have b20_3 := hB20.b b19_3
   have b20_4 := hB20.b b19_4
   have b20_5 := hB20.b b19_5
   have q18' := (q17'.below hB20.below)
   refine hK28 _ _ ?_
   have k20_3 := kt hg20 3 k19_3
   have k20_4 := kt hg20 4 k19_4
   have k20_5 := kt hg20 5 k19_5
   have k20_6 := kt hg20 6 k19_6
   have k20_8 := kt hg20 8 k19_8
   have k20_9 := kt hg20 9 k19_9
   have k20_42 := kt hg20 42 k19_42
   have k20_36 := kt hg20 36 k19_36
   have k20_37 := kt hg20 37 (hB20.is 0)
   refine wp_seq_k fun K29 hK29 => ?_
   refine wp_cond_true ((fr_eval rfl).trans k20_37) ?_
   refine wp_skip ?_
   refine hK29 _ _ ?_
   refine wp_seq_k fun K31 hK31 => ?_
   refine wp_block ?_
   refine wp_seq_k fun K32 hK32 => ?_
   refine region_dk 2 [(38, 0), (9, 1)] [[], [0]] (rel [is (.int .i64 2),
   is (.int .i64 2)])
    ⟨is_k, is_k, trivial⟩
    ⟨fun f s W i j k l m a => opv rfl rfl (by simp [go_sem, a.e 36 k20_36]) rfl,
  fun f s W i j k l m a => opv rfl rfl (by simp [go_sem, a.e 38 (j 0 rfl)]) rfl, trivial⟩ ?_
   intro f21 s21 W21 hB21 g21 hg21
   have fB21 := hB21.f fB20
   have z21 := hB21.below.size
   have b21_0 := hB21.b b20_0
   have b21_1 := hB21.b b20_1
   have b21_2 := hB21.b b20_2
   have b21_3 := hB21.b b20_3
   have b21_4 := hB21.b b20_4
   have b21_5 := hB21.b b20_5
   have q19' := (q18'.below hB21.below)
   refine hK32 _ _ ?_
   have k21_3 := kt hg21 3 k20_3
   have k21_4 := kt hg21 4 k20_4
   have k21_5 := kt hg21 5 k20_5
   have k21_6 := kt hg21 6 k20_6
   have k21_8 := kt hg21 8 k20_8
   have k21_42 := kt hg21 42 k20_42
   have k21_36 := kt hg21 36 k20_36
   have k21_37 := kt hg21 37 k20_37
   have k21_9 := kt hg21 9 (hB21.is 1)
   refine wp_seq_k fun K33 hK33 => ?_
   refine region_dk 4 [(39, 0), (40, 1), (41, 2), (42, 3)] [[], [], [0, 1], [0, 1, 2]] (rel [is (.func (.func 77) #[] #[.pointer (some ⟨(s1 0), 0, none⟩), .pointer (some ⟨(s1 2), 0, none⟩), .pointer (some ⟨(s1 1), 0, none⟩), .pointer (some ⟨(s3 5), 0, none⟩)]),
   is (.int .i64 2),
   is (.bool (someB 1 p2 off (fun p => okP ⟨(l1, h1), (l2, h2), (l3, h3), (l4, h4), (l5, h5), wo⟩ c off p [(v0, v1), (v2, v3)] 2))),
   is (.bool (!(someB 1 p2 off (fun p => okP ⟨(l1, h1), (l2, h2), (l3, h3), (l4, h4), (l5, h5), wo⟩ c off p [(v0, v1), (v2, v3)] 2))))])
    ⟨is_k, is_k, is_k, is_k, trivial⟩
    ⟨fun f s W i j k l m a => opv rfl rfl (by simp [go_sem, a.e 8 k21_8]) rfl,
  fun f s W i j k l m a => opv rfl rfl (by simp [go_sem, a.e 9 k21_9]) rfl,
  fun f s W i j k l m a => by have q := below_trans fB21 i; exact opc rfl rfl (by simp [go_sem, a.e 40 (j 1 rfl), a.e 39 (j 0 rfl)]) (closesI_2_2 (.int .i64 tab) (.int .i64 hh) (.slice (some ⟨q1, o1, none⟩) (2) (m1)) (.slice (some ⟨q0, o0, none⟩) (2) (m0)) (.int .i64 slot) (.bool false) l1 h1 l2 h2 l3 h3 l4 h4 l5 h5 wo hw c off p0 p1 p2 p3 v0 v1 v2 v3 q0 o0 m0 q1 o1 m1 bp ox cp g1' c2' (s1 0) (s1 2) (s1 1) (s3 5) W (hP.below q (Nat.le_refl _)) hpp ((q19'.below i)).1 ((q19'.below i)).2.1 (hI0.below q (Nat.le_refl _)) hv0 hv0' hv1 hv1' ((q19'.below i)).2.2 (hI1.below q (Nat.le_refl _)) hv2 hv2' hv3 hv3' hc1 hc2 ho1 ho2 (blk_below b21_0 i) (blk_below b21_2 i) (blk_below b21_1 i) (blk_below b21_4 i)),
  fun f s W i j k l m a => opv rfl rfl (by simp [go_sem, a.e 41 (j 2 rfl)]) rfl, trivial⟩ ?_
   intro f22 s22 W22 hB22 g22 hg22
   have fB22 := hB22.f fB21
   have z22 := hB22.below.size
   have b22_0 := hB22.b b21_0
   have b22_1 := hB22.b b21_1
   have b22_2 := hB22.b b21_2
   have b22_3 := hB22.b b21_3
   have b22_4 := hB22.b b21_4
   have b22_5 := hB22.b b21_5
   have q20' := (q19'.below hB22.below)
   refine hK33 _ _ ?_
   have k22_3 := kt hg22 3 k21_3
   have k22_4 := kt hg22 4 k21_4
   have k22_5 := kt hg22 5 k21_5
   have k22_6 := kt hg22 6 k21_6
   have k22_8 := kt hg22 8 k21_8
   have k22_36 := kt hg22 36 k21_36
   have k22_37 := kt hg22 37 k21_37
   have k22_9 := kt hg22 9 k21_9
   have k22_42 := kt hg22 42 (hB22.is 3)
   refine wp_cond_split (t := !(someB 1 p2 off (fun p => okP ⟨(l1, h1), (l2, h2), (l3, h3), (l4, h4), (l5, h5), wo⟩ c off p [(v0, v1), (v2, v3)] 2))) ((fr_eval rfl).trans k22_42) (fun hc34 => ?_) (fun hc34 => ?_)
   ·
    have hc34' := hc34; try simp only [ba] at hc34'
    refine wp_seq_k fun K35 hK35 => ?_
    refine region_dk 1 [(6, 0)] [[]] (rel [is (.bool false)])
     ⟨is_k, trivial⟩
     ⟨fun f s W i j k l m a => opv rfl rfl (by simp [go_sem]) rfl, trivial⟩ ?_
    intro f23 s23 W23 hB23 g23 hg23
    have fB23 := hB23.f fB22
    have z23 := hB23.below.size
    have b23_0 := hB23.b b22_0
    have b23_1 := hB23.b b22_1
    have b23_2 := hB23.b b22_2
    have b23_3 := hB23.b b22_3
    have b23_4 := hB23.b b22_4
    have b23_5 := hB23.b b22_5
    have q21' := (q20'.below hB23.below)
    refine hK35 _ _ ?_
    have k23_3 := kt hg23 3 k22_3
    have k23_4 := kt hg23 4 k22_4
    have k23_5 := kt hg23 5 k22_5
    have k23_8 := kt hg23 8 k22_8
    have k23_36 := kt hg23 36 k22_36
    have k23_37 := kt hg23 37 k22_37
    have k23_9 := kt hg23 9 k22_9
    have k23_42 := kt hg23 42 k22_42
    have k23_6 := kt hg23 6 (hB23.is 0)
    refine wp_ret ?_
    refine inBlock_ret (then_ret (then_ret (inBlock_ret (then_ret ?_))))
    refine leave_one (N := 65) (v := .bool false) (.inr rfl) Try.results55 rfl k23_6 ?_
    have e : closesOf ⟨tab, [p0, p1, p2, p3], hh, [v2, v3], [v0, v1], slot, false⟩ ⟨(l1, h1), (l2, h2), (l3, h3), (l4, h4), (l5, h5), wo⟩ off c = ((false == wo) && (someB 1 p0 off (fun p => okP ⟨(l1, h1), (l2, h2), (l3, h3), (l4, h4), (l5, h5), wo⟩ c off p [(v0, v1), (v2, v3)] 0) && (someB 1 p1 off (fun p => okP ⟨(l1, h1), (l2, h2), (l3, h3), (l4, h4), (l5, h5), wo⟩ c off p [(v0, v1), (v2, v3)] 1) && (someB 1 p2 off (fun p => okP ⟨(l1, h1), (l2, h2), (l3, h3), (l4, h4), (l5, h5), wo⟩ c off p [(v0, v1), (v2, v3)] 2) && (someB 1 p3 off (fun p => okP ⟨(l1, h1), (l2, h2), (l3, h3), (l4, h4), (l5, h5), wo⟩ c off p [(v0, v1), (v2, v3)] 3) && (decide (c ≤ 1000 * min 20 (slot + off)) && someB 1 hh off fun n => isInOf n (foldsOf false) c (l3, h3))))))) := rfl
    have t0 := not_f hc18
    have t1 := not_f hc26
    have t2 := not_t hc34
    exact ⟨ret_bool (by rw [e]; simp only [ho, t0, t1, t2, Bool.true_and, Bool.false_and]), fB23⟩
   ·
    have hc34' := hc34; try simp only [ba] at hc34'
    refine wp_skip ?_
    refine inBlock_normal ?_
    refine hK31 _ _ ?_
    refine region_dk 2 [(43, 0), (36, 1)] [[], [0]] (rel [is (.int .i64 3),
   is (.int .i64 3)])
     ⟨is_k, is_k, trivial⟩
     ⟨fun f s W i j k l m a => opv rfl rfl (by simp [go_sem, a.e 36 ((l 1 36 rfl rfl).trans k22_36), IntWalk.i64_in (3) (by omega)]) rfl,
  fun f s W i j k l m a => opv rfl rfl (by simp [go_sem, a.e 43 (j 0 rfl)]) rfl, trivial⟩ ?_
    intro f24 s24 W24 hB24 g24 hg24
    have fB24 := hB24.f fB22
    have z24 := hB24.below.size
    have b24_0 := hB24.b b22_0
    have b24_1 := hB24.b b22_1
    have b24_2 := hB24.b b22_2
    have b24_3 := hB24.b b22_3
    have b24_4 := hB24.b b22_4
    have b24_5 := hB24.b b22_5
    have q22' := (q20'.below hB24.below)
    refine wpOps_end ?_
    have k24_3 := kt hg24 3 k22_3
    have k24_4 := kt hg24 4 k22_4
    have k24_5 := kt hg24 5 k22_5
    have k24_6 := kt hg24 6 k22_6
    have k24_8 := kt hg24 8 k22_8
    have k24_37 := kt hg24 37 k22_37
    have k24_9 := kt hg24 9 k22_9
    have k24_42 := kt hg24 42 k22_42
    have k24_36 := kt hg24 36 (hB24.is 1)
    refine then_normal ?_
    rw [rounds_succ]
    refine wp_seq_k fun K36 hK36 => ?_
    refine region_dk 1 [(37, 0)] [[]] (rel [is (.bool true)])
     ⟨is_k, trivial⟩
     ⟨fun f s W i j k l m a => opv rfl rfl (by simp [go_sem, a.e 36 k24_36]) rfl, trivial⟩ ?_
    intro f25 s25 W25 hB25 g25 hg25
    have fB25 := hB25.f fB24
    have z25 := hB25.below.size
    have b25_0 := hB25.b b24_0
    have b25_1 := hB25.b b24_1
    have b25_2 := hB25.b b24_2
    have b25_3 := hB25.b b24_3
    have b25_4 := hB25.b b24_4
    have b25_5 := hB25.b b24_5
    have q23' := (q22'.below hB25.below)
    refine hK36 _ _ ?_
    have k25_3 := kt hg25 3 k24_3
    have k25_4 := kt hg25 4 k24_4
    have k25_5 := kt hg25 5 k24_5
    have k25_6 := kt hg25 6 k24_6
    have k25_8 := kt hg25 8 k24_8
    have k25_9 := kt hg25 9 k24_9
    have k25_42 := kt hg25 42 k24_42
    have k25_36 := kt hg25 36 k24_36
    have k25_37 := kt hg25 37 (hB25.is 0)
    refine wp_seq_k fun K37 hK37 => ?_
    refine wp_cond_true ((fr_eval rfl).trans k25_37) ?_
    refine wp_skip ?_
    refine hK37 _ _ ?_
    refine wp_seq_k fun K39 hK39 => ?_
    refine wp_block ?_
    refine wp_seq_k fun K40 hK40 => ?_
    refine region_dk 2 [(38, 0), (9, 1)] [[], [0]] (rel [is (.int .i64 3),
   is (.int .i64 3)])
     ⟨is_k, is_k, trivial⟩
     ⟨fun f s W i j k l m a => opv rfl rfl (by simp [go_sem, a.e 36 k25_36]) rfl,
  fun f s W i j k l m a => opv rfl rfl (by simp [go_sem, a.e 38 (j 0 rfl)]) rfl, trivial⟩ ?_
    intro f26 s26 W26 hB26 g26 hg26
    have fB26 := hB26.f fB25
    have z26 := hB26.below.size
    have b26_0 := hB26.b b25_0
    have b26_1 := hB26.b b25_1
    have b26_2 := hB26.b b25_2
    have b26_3 := hB26.b b25_3
    have b26_4 := hB26.b b25_4
    have b26_5 := hB26.b b25_5
    have q24' := (q23'.below hB26.below)
    refine hK40 _ _ ?_
    have k26_3 := kt hg26 3 k25_3
    have k26_4 := kt hg26 4 k25_4
    have k26_5 := kt hg26 5 k25_5
    have k26_6 := kt hg26 6 k25_6
    have k26_8 := kt hg26 8 k25_8
    have k26_42 := kt hg26 42 k25_42
    have k26_36 := kt hg26 36 k25_36
    have k26_37 := kt hg26 37 k25_37
    have k26_9 := kt hg26 9 (hB26.is 1)
    refine wp_seq_k fun K41 hK41 => ?_
    refine region_dk 4 [(39, 0), (40, 1), (41, 2), (42, 3)] [[], [], [0, 1], [0, 1, 2]] (rel [is (.func (.func 77) #[] #[.pointer (some ⟨(s1 0), 0, none⟩), .pointer (some ⟨(s1 2), 0, none⟩), .pointer (some ⟨(s1 1), 0, none⟩), .pointer (some ⟨(s3 5), 0, none⟩)]),
   is (.int .i64 3),
   is (.bool (someB 1 p3 off (fun p => okP ⟨(l1, h1), (l2, h2), (l3, h3), (l4, h4), (l5, h5), wo⟩ c off p [(v0, v1), (v2, v3)] 3))),
   is (.bool (!(someB 1 p3 off (fun p => okP ⟨(l1, h1), (l2, h2), (l3, h3), (l4, h4), (l5, h5), wo⟩ c off p [(v0, v1), (v2, v3)] 3))))])
     ⟨is_k, is_k, is_k, is_k, trivial⟩
     ⟨fun f s W i j k l m a => opv rfl rfl (by simp [go_sem, a.e 8 k26_8]) rfl,
  fun f s W i j k l m a => opv rfl rfl (by simp [go_sem, a.e 9 k26_9]) rfl,
  fun f s W i j k l m a => by have q := below_trans fB26 i; exact opc rfl rfl (by simp [go_sem, a.e 40 (j 1 rfl), a.e 39 (j 0 rfl)]) (closesI_3_2 (.int .i64 tab) (.int .i64 hh) (.slice (some ⟨q1, o1, none⟩) (2) (m1)) (.slice (some ⟨q0, o0, none⟩) (2) (m0)) (.int .i64 slot) (.bool false) l1 h1 l2 h2 l3 h3 l4 h4 l5 h5 wo hw c off p0 p1 p2 p3 v0 v1 v2 v3 q0 o0 m0 q1 o1 m1 bp ox cp g1' c2' (s1 0) (s1 2) (s1 1) (s3 5) W (hP.below q (Nat.le_refl _)) hpp ((q24'.below i)).1 ((q24'.below i)).2.1 (hI0.below q (Nat.le_refl _)) hv0 hv0' hv1 hv1' ((q24'.below i)).2.2 (hI1.below q (Nat.le_refl _)) hv2 hv2' hv3 hv3' hc1 hc2 ho1 ho2 (blk_below b26_0 i) (blk_below b26_2 i) (blk_below b26_1 i) (blk_below b26_4 i)),
  fun f s W i j k l m a => opv rfl rfl (by simp [go_sem, a.e 41 (j 2 rfl)]) rfl, trivial⟩ ?_
    intro f27 s27 W27 hB27 g27 hg27
    have fB27 := hB27.f fB26
    have z27 := hB27.below.size
    have b27_0 := hB27.b b26_0
    have b27_1 := hB27.b b26_1
    have b27_2 := hB27.b b26_2
    have b27_3 := hB27.b b26_3
    have b27_4 := hB27.b b26_4
    have b27_5 := hB27.b b26_5
    have q25' := (q24'.below hB27.below)
    refine hK41 _ _ ?_
    have k27_3 := kt hg27 3 k26_3
    have k27_4 := kt hg27 4 k26_4
    have k27_5 := kt hg27 5 k26_5
    have k27_6 := kt hg27 6 k26_6
    have k27_8 := kt hg27 8 k26_8
    have k27_36 := kt hg27 36 k26_36
    have k27_37 := kt hg27 37 k26_37
    have k27_9 := kt hg27 9 k26_9
    have k27_42 := kt hg27 42 (hB27.is 3)
    refine wp_cond_split (t := !(someB 1 p3 off (fun p => okP ⟨(l1, h1), (l2, h2), (l3, h3), (l4, h4), (l5, h5), wo⟩ c off p [(v0, v1), (v2, v3)] 3))) ((fr_eval rfl).trans k27_42) (fun hc42 => ?_) (fun hc42 => ?_)
    ·
     have hc42' := hc42; try simp only [ba] at hc42'
     refine wp_seq_k fun K43 hK43 => ?_
     refine region_dk 1 [(6, 0)] [[]] (rel [is (.bool false)])
      ⟨is_k, trivial⟩
      ⟨fun f s W i j k l m a => opv rfl rfl (by simp [go_sem]) rfl, trivial⟩ ?_
     intro f28 s28 W28 hB28 g28 hg28
     have fB28 := hB28.f fB27
     have z28 := hB28.below.size
     have b28_0 := hB28.b b27_0
     have b28_1 := hB28.b b27_1
     have b28_2 := hB28.b b27_2
     have b28_3 := hB28.b b27_3
     have b28_4 := hB28.b b27_4
     have b28_5 := hB28.b b27_5
     have q26' := (q25'.below hB28.below)
     refine hK43 _ _ ?_
     have k28_3 := kt hg28 3 k27_3
     have k28_4 := kt hg28 4 k27_4
     have k28_5 := kt hg28 5 k27_5
     have k28_8 := kt hg28 8 k27_8
     have k28_36 := kt hg28 36 k27_36
     have k28_37 := kt hg28 37 k27_37
     have k28_9 := kt hg28 9 k27_9
     have k28_42 := kt hg28 42 k27_42
     have k28_6 := kt hg28 6 (hB28.is 0)
     refine wp_ret ?_
     refine inBlock_ret (then_ret (then_ret (inBlock_ret (then_ret ?_))))
     refine leave_one (N := 65) (v := .bool false) (.inr rfl) Try.results55 rfl k28_6 ?_
     have e : closesOf ⟨tab, [p0, p1, p2, p3], hh, [v2, v3], [v0, v1], slot, false⟩ ⟨(l1, h1), (l2, h2), (l3, h3), (l4, h4), (l5, h5), wo⟩ off c = ((false == wo) && (someB 1 p0 off (fun p => okP ⟨(l1, h1), (l2, h2), (l3, h3), (l4, h4), (l5, h5), wo⟩ c off p [(v0, v1), (v2, v3)] 0) && (someB 1 p1 off (fun p => okP ⟨(l1, h1), (l2, h2), (l3, h3), (l4, h4), (l5, h5), wo⟩ c off p [(v0, v1), (v2, v3)] 1) && (someB 1 p2 off (fun p => okP ⟨(l1, h1), (l2, h2), (l3, h3), (l4, h4), (l5, h5), wo⟩ c off p [(v0, v1), (v2, v3)] 2) && (someB 1 p3 off (fun p => okP ⟨(l1, h1), (l2, h2), (l3, h3), (l4, h4), (l5, h5), wo⟩ c off p [(v0, v1), (v2, v3)] 3) && (decide (c ≤ 1000 * min 20 (slot + off)) && someB 1 hh off fun n => isInOf n (foldsOf false) c (l3, h3))))))) := rfl
     have t0 := not_f hc18
     have t1 := not_f hc26
     have t2 := not_f hc34
     have t3 := not_t hc42
     exact ⟨ret_bool (by rw [e]; simp only [ho, t0, t1, t2, t3, Bool.true_and, Bool.false_and]), fB28⟩
    ·
     have hc42' := hc42; try simp only [ba] at hc42'
     refine wp_skip ?_
     refine inBlock_normal ?_
     refine hK39 _ _ ?_
     refine region_dk 2 [(43, 0), (36, 1)] [[], [0]] (rel [is (.int .i64 4),
   is (.int .i64 4)])
      ⟨is_k, is_k, trivial⟩
      ⟨fun f s W i j k l m a => opv rfl rfl (by simp [go_sem, a.e 36 ((l 1 36 rfl rfl).trans k27_36), IntWalk.i64_in (4) (by omega)]) rfl,
  fun f s W i j k l m a => opv rfl rfl (by simp [go_sem, a.e 43 (j 0 rfl)]) rfl, trivial⟩ ?_
     intro f29 s29 W29 hB29 g29 hg29
     have fB29 := hB29.f fB27
     have z29 := hB29.below.size
     have b29_0 := hB29.b b27_0
     have b29_1 := hB29.b b27_1
     have b29_2 := hB29.b b27_2
     have b29_3 := hB29.b b27_3
     have b29_4 := hB29.b b27_4
     have b29_5 := hB29.b b27_5
     have q27' := (q25'.below hB29.below)
     refine wpOps_end ?_
     have k29_3 := kt hg29 3 k27_3
     have k29_4 := kt hg29 4 k27_4
     have k29_5 := kt hg29 5 k27_5
     have k29_6 := kt hg29 6 k27_6
     have k29_8 := kt hg29 8 k27_8
     have k29_37 := kt hg29 37 k27_37
     have k29_9 := kt hg29 9 k27_9
     have k29_42 := kt hg29 42 k27_42
     have k29_36 := kt hg29 36 (hB29.is 1)
     refine then_normal ?_
     rw [rounds_succ]
     refine wp_seq_k fun K44 hK44 => ?_
     refine region_dk 1 [(37, 0)] [[]] (rel [is (.bool false)])
      ⟨is_k, trivial⟩
      ⟨fun f s W i j k l m a => opv rfl rfl (by simp [go_sem, a.e 36 k29_36]) rfl, trivial⟩ ?_
     intro f30 s30 W30 hB30 g30 hg30
     have fB30 := hB30.f fB29
     have z30 := hB30.below.size
     have b30_0 := hB30.b b29_0
     have b30_1 := hB30.b b29_1
     have b30_2 := hB30.b b29_2
     have b30_3 := hB30.b b29_3
     have b30_4 := hB30.b b29_4
     have b30_5 := hB30.b b29_5
     have q28' := (q27'.below hB30.below)
     refine hK44 _ _ ?_
     have k30_3 := kt hg30 3 k29_3
     have k30_4 := kt hg30 4 k29_4
     have k30_5 := kt hg30 5 k29_5
     have k30_6 := kt hg30 6 k29_6
     have k30_8 := kt hg30 8 k29_8
     have k30_9 := kt hg30 9 k29_9
     have k30_42 := kt hg30 42 k29_42
     have k30_36 := kt hg30 36 k29_36
     have k30_37 := kt hg30 37 (hB30.is 0)
     refine wp_seq_k fun K45 hK45 => ?_
     refine wp_cond_false ((fr_eval rfl).trans k30_37) ?_
     refine wp_exit ?_
     refine then_exit ?_
     refine then_exit ?_
     refine inBlock_at ?_
     refine hK10 _ _ ?_
     refine wp_seq_k fun K47 hK47 => ?_
     refine region_dk 9 [(44, 0), (45, 1), (46, 2), (47, 3), (48, 4), (49, 5), (50, 6), (51, 7), (10, 8)] [[], [0], [0, 1], [0, 1, 2], [], [4], [0, 1, 2, 3, 4, 5], [0, 1, 2, 3, 4, 5, 6], [0, 1, 2, 3, 4, 5, 6, 7]] (rel [is (.pointer (some ⟨(s1 0), 0, none⟩)),
   is (.pointer (some ⟨(s1 0), 0, none⟩)),
   is (.pointer (some ⟨(s1 0), 5, none⟩)),
   is (.int .i64 slot),
   is (.pointer (some ⟨(s1 0), 7, none⟩)),
   is (.int .i64 off),
   is (.int .i64 (slot + off)),
   is (.int .i64 (min 20 (slot + off))),
   is (.int .i64 (min 20 (slot + off)))])
      ⟨is_k, is_k, is_k, is_k, is_k, is_k, is_k, is_k, is_k, trivial⟩
      ⟨fun f s W i j k l m a => opv rfl rfl (by simp [go_sem, a.e 3 k30_3]) rfl,
  fun f s W i j k l m a => opv rfl rfl (by simp [go_sem, a.e 44 (j 0 rfl)]) rfl,
  fun f s W i j k l m a => opv rfl rfl (by simp [go_sem, a.e 45 (j 1 rfl)]) rfl,
  fun f s W i j k l m a => opv rfl rfl (by simp [go_sem, a.e 46 (j 2 rfl), cb b30_0 i 5]) rfl,
  fun f s W i j k l m a => opv rfl rfl (by simp [go_sem, a.e 3 k30_3]) rfl,
  fun f s W i j k l m a => opv rfl rfl (by simp [go_sem, a.e 48 (j 4 rfl), cb b30_0 i 7]) rfl,
  fun f s W i j k l m a => opv rfl rfl (by simp [go_sem, a.e 47 (j 3 rfl), a.e 49 (j 5 rfl), IntWalk.i64_in (slot + off) (by omega)]) rfl,
  fun f s W i j k l m a => opv rfl rfl (by simp [go_sem, a.e 50 (j 6 rfl)]) rfl,
  fun f s W i j k l m a => opv rfl rfl (by simp [go_sem, a.e 51 (j 7 rfl)]) rfl, trivial⟩ ?_
     intro f31 s31 W31 hB31 g31 hg31
     have fB31 := hB31.f fB30
     have z31 := hB31.below.size
     have b31_0 := hB31.b b30_0
     have b31_1 := hB31.b b30_1
     have b31_2 := hB31.b b30_2
     have b31_3 := hB31.b b30_3
     have b31_4 := hB31.b b30_4
     have b31_5 := hB31.b b30_5
     have q29' := (q28'.below hB31.below)
     refine hK47 _ _ ?_
     have k31_3 := kt hg31 3 k30_3
     have k31_4 := kt hg31 4 k30_4
     have k31_5 := kt hg31 5 k30_5
     have k31_6 := kt hg31 6 k30_6
     have k31_10 := kt hg31 10 (hB31.is 8)
     refine wp_seq_k fun K48 hK48 => ?_
     refine region_dk 14 [(52, 0), (53, 1), (54, 2), (55, 3), (56, 4), (57, 5), (58, 6), (59, 7), (60, 8), (61, 9), (62, 10), (63, 11), (64, 12), (6, 13)] [[], [0], [], [0, 1, 2], [0, 1, 2, 3], [0, 1, 2, 3, 4], [0, 1, 2, 3, 4], [0, 1, 2, 3, 4, 6], [0, 1, 2, 3, 4, 6, 7], [0, 1, 2, 3, 4, 6, 7, 8], [0, 1, 2, 3, 4], [0, 1, 2, 3, 4, 5, 6, 7, 8, 9, 10], [0, 1, 2, 3, 4, 5, 6, 7, 8, 9, 10, 11], [0, 1, 2, 3, 4, 5, 6, 7, 8, 9, 10, 11, 12]] (rel [is (.int .i64 (min 20 (slot + off))),
   is (.int .i64 (1000 * (min 20 (slot + off)))),
   is (.int .i64 c),
   is (.bool (decide (c ≤ (1000 * (min 20 (slot + off)))))),
   is (.bool (decide (c ≤ (1000 * (min 20 (slot + off)))))),
   gd (decide (c ≤ (1000 * (min 20 (slot + off))))) true (is (.agg #[.int .i64 tab, .slice (some ⟨bp, ox, none⟩) (4) (cp), .int .i64 hh, .slice (some ⟨q1, o1, none⟩) (2) (m1), .slice (some ⟨q0, o0, none⟩) (2) (m0), .int .i64 slot, .bool false, .int .i64 off])),
   gd (decide (c ≤ (1000 * (min 20 (slot + off))))) true (is (.pointer (some ⟨(s1 0), 0, none⟩))),
   gd (decide (c ≤ (1000 * (min 20 (slot + off))))) true (is (.pointer (some ⟨(s1 0), 0, none⟩))),
   gd (decide (c ≤ (1000 * (min 20 (slot + off))))) true (is (.pointer (some ⟨(s1 0), 2, none⟩))),
   gd (decide (c ≤ (1000 * (min 20 (slot + off))))) true (is (.int .i64 hh)),
   gd (decide (c ≤ (1000 * (min 20 (slot + off))))) true (is (.func (.func 84) #[] #[.pointer (some ⟨(s1 0), 0, none⟩), .pointer (some ⟨(s1 2), 0, none⟩), .pointer (some ⟨(s1 1), 0, none⟩)])),
   gd (decide (c ≤ (1000 * (min 20 (slot + off))))) true (is (.bool (someB 1 hh off (fun n => isInOf n (foldsOf false) c (l3, h3))))),
   is (.bool ((decide (c ≤ (1000 * (min 20 (slot + off))))) && (someB 1 hh off (fun n => isInOf n (foldsOf false) c (l3, h3))))),
   is (.bool ((decide (c ≤ (1000 * (min 20 (slot + off))))) && (someB 1 hh off (fun n => isInOf n (foldsOf false) c (l3, h3)))))])
      ⟨is_k, is_k, is_k, is_k, is_k, gd_k (is_k), gd_k (is_k), gd_k (is_k), gd_k (is_k), gd_k (is_k), gd_k (is_k), gd_k (is_k), is_k, is_k, trivial⟩
      ⟨fun f s W i j k l m a => opv rfl rfl (by simp [go_sem, a.e 10 k31_10]) rfl,
  fun f s W i j k l m a => opv rfl rfl (by simp [go_sem, a.e 52 (j 0 rfl), IntWalk.i64_in (1000 * (min 20 (slot + off))) (by omega)]) rfl,
  fun f s W i j k l m a => opv rfl rfl (by simp [go_sem, a.e 5 k31_5, cb b31_2 i 0]) rfl,
  fun f s W i j k l m a => opv rfl rfl (by simp [go_sem, a.e 53 (j 1 rfl), a.e 54 (j 2 rfl)]) rfl,
  fun f s W i j k l m a => opv rfl rfl (by simp [go_sem, a.e 55 (j 3 rfl)]) rfl,
  fun f s W i j k l m a => gdo rfl rfl (a.says (d := 56) rfl rfl (j 4 rfl)) fun hgd0 => gv (by simp [go_sem, a.e 3 k31_3, cb b31_0 i 0, cb b31_0 i 1, cb b31_0 i 2, cb b31_0 i 3, cb b31_0 i 4, cb b31_0 i 5, cb b31_0 i 6, cb b31_0 i 7]) rfl,
  fun f s W i j k l m a => gdo rfl rfl (a.says (d := 56) rfl rfl (j 4 rfl)) fun hgd0 => gv (by simp [go_sem, a.e 3 k31_3]) rfl,
  fun f s W i j k l m a => gdo rfl rfl (a.says (d := 56) rfl rfl (j 4 rfl)) fun hgd0 => gv (by simp [go_sem, a.e 58 ((j 6 rfl).1 hgd0)]) rfl,
  fun f s W i j k l m a => gdo rfl rfl (a.says (d := 56) rfl rfl (j 4 rfl)) fun hgd0 => gv (by simp [go_sem, a.e 59 ((j 7 rfl).1 hgd0)]) rfl,
  fun f s W i j k l m a => gdo rfl rfl (a.says (d := 56) rfl rfl (j 4 rfl)) fun hgd0 => gv (by simp [go_sem, a.e 60 ((j 8 rfl).1 hgd0), cb b31_0 i 2]) rfl,
  fun f s W i j k l m a => gdo rfl rfl (a.says (d := 56) rfl rfl (j 4 rfl)) fun hgd0 => gv (by simp [go_sem, a.e 3 k31_3, a.e 5 k31_5, a.e 4 k31_4]) rfl,
  fun f s W i j k l m a => gdo rfl rfl (a.says (d := 56) rfl rfl (j 4 rfl)) fun hgd0 => gc (args := #[.agg #[.int .i64 tab, .slice (some ⟨bp, ox, none⟩) (4) (cp), .int .i64 hh, .slice (some ⟨q1, o1, none⟩) (2) (m1), .slice (some ⟨q0, o0, none⟩) (2) (m0), .int .i64 slot, .bool false, .int .i64 off], .int .i64 1, .int .i64 hh, .func (.func 84) #[] #[.pointer (some ⟨(s1 0), 0, none⟩), .pointer (some ⟨(s1 2), 0, none⟩), .pointer (some ⟨(s1 1), 0, none⟩)]]) (by simp [go_sem, a.e 57 ((j 5 rfl).1 hgd0), a.e 61 ((j 9 rfl).1 hgd0), a.e 62 ((j 10 rfl).1 hgd0)]) (some_any (.int .i64 tab) (.slice (some ⟨bp, ox, none⟩) (4) (cp)) (.int .i64 hh) (.slice (some ⟨q1, o1, none⟩) (2) (m1)) (.slice (some ⟨q0, o0, none⟩) (2) (m0)) (.int .i64 slot) (.bool false) off 1 hh 84 #[.pointer (some ⟨(s1 0), 0, none⟩), .pointer (some ⟨(s1 2), 0, none⟩), .pointer (some ⟨(s1 1), 0, none⟩)] (fun n => isInOf n (foldsOf false) c (l3, h3)) W (by omega) (by omega) (by omega) (by omega) (by omega) (by omega) (fun _ _ => by simp [go_sem]) (fun x y1 y2 W' hb' => closes2_any l1 h1 l2 h2 l3 h3 l4 h4 l5 h5 wo hw x c tab hh slot off (.slice (some ⟨bp, ox, none⟩) (4) (cp)) (.slice (some ⟨q1, o1, none⟩) (2) (m1)) (.slice (some ⟨q0, o0, none⟩) (2) (m0)) false (s1 0) (s1 2) (s1 1) W' (by unfold loOf at y1; omega) (by unfold hiOf at y2; omega) hc1 hc2 (blk_below (blk_below b31_0 i) hb') (blk_below (blk_below b31_2 i) hb') (blk_below (blk_below b31_1 i) hb'))),
  fun f s W i j k l m a => opk (c := decide (c ≤ (1000 * (min 20 (slot + off))))) rfl rfl (fun hpk => by first | (simp [go_sem, hpk, a.e 56 (j 4 rfl)]; done) | (have hpk' := hpk; simp at hpk'; simp [go_sem, hpk', hpk, a.e 56 (j 4 rfl)])) (fun hpk => by first | (simp [go_sem, hpk, a.e 56 (j 4 rfl), a.e 63 ((j 11 rfl).1 hpk)]; done) | (have hpk' := hpk; simp at hpk'; simp [go_sem, hpk', hpk, a.e 56 (j 4 rfl), a.e 63 ((j 11 rfl).1 hpk)])),
  fun f s W i j k l m a => opv rfl rfl (by simp [go_sem, a.e 64 (j 12 rfl)]) rfl, trivial⟩ ?_
     intro f32 s32 W32 hB32 g32 hg32
     have fB32 := hB32.f fB31
     have z32 := hB32.below.size
     have b32_0 := hB32.b b31_0
     have b32_1 := hB32.b b31_1
     have b32_2 := hB32.b b31_2
     have b32_3 := hB32.b b31_3
     have b32_4 := hB32.b b31_4
     have b32_5 := hB32.b b31_5
     have q30' := (q29'.below hB32.below)
     refine hK48 _ _ ?_
     have k32_6 := kt hg32 6 (hB32.is 13)
     refine wp_ret ?_
     refine leave_one (N := 65) (v := .bool ((decide (c ≤ (1000 * (min 20 (slot + off))))) && (someB 1 hh off (fun n => isInOf n (foldsOf false) c (l3, h3))))) (.inr rfl) Try.results55 rfl k32_6 ?_
     have e : closesOf ⟨tab, [p0, p1, p2, p3], hh, [v2, v3], [v0, v1], slot, false⟩ ⟨(l1, h1), (l2, h2), (l3, h3), (l4, h4), (l5, h5), wo⟩ off c = ((false == wo) && (someB 1 p0 off (fun p => okP ⟨(l1, h1), (l2, h2), (l3, h3), (l4, h4), (l5, h5), wo⟩ c off p [(v0, v1), (v2, v3)] 0) && (someB 1 p1 off (fun p => okP ⟨(l1, h1), (l2, h2), (l3, h3), (l4, h4), (l5, h5), wo⟩ c off p [(v0, v1), (v2, v3)] 1) && (someB 1 p2 off (fun p => okP ⟨(l1, h1), (l2, h2), (l3, h3), (l4, h4), (l5, h5), wo⟩ c off p [(v0, v1), (v2, v3)] 2) && (someB 1 p3 off (fun p => okP ⟨(l1, h1), (l2, h2), (l3, h3), (l4, h4), (l5, h5), wo⟩ c off p [(v0, v1), (v2, v3)] 3) && (decide (c ≤ 1000 * min 20 (slot + off)) && someB 1 hh off fun n => isInOf n (foldsOf false) c (l3, h3))))))) := rfl
     have t0 := not_f hc18
     have t1 := not_f hc26
     have t2 := not_f hc34
     have t3 := not_f hc42
     exact ⟨ret_bool (by rw [e]; simp only [ho, t0, t1, t2, t3, Bool.true_and, Bool.false_and]), fB32⟩
end Go.Proofs.Ythnediamopehfaa
