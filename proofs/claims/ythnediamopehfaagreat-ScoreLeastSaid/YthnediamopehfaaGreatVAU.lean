/- Part of the proof: what the claim leans on. -/
import Derived.Test.YthnediamopehfaaGreatVAR
import Derived.Test.YthnediamopehfaaGreatVAS
import Derived.Test.YthnediamopehfaaGreatVAT
set_option maxHeartbeats 2000000
set_option maxRecDepth 100000
set_option linter.unusedSimpArgs false
set_option linter.unusedVariables false
namespace Go.Proofs.YthnediamopehfaaGreat
open Go.RowKit
theorem closes_false (l1 h1 l2 h2 l3 h3 l4 h4 l5 h5 : Int) (wo : Bool) (hw : WishIn ⟨(l1, h1), (l2, h2), (l3, h3), (l4, h4), (l5, h5), wo⟩) (c off p0 p1 p2 p3 tab hh slot v0 v1 v2 v3 : Int)  (q0 o0 m0 q1 o1 m1 bp ox cp : Nat) (w : World) (hP : Ii w (some ⟨bp, ox, none⟩) 4 cp [p0, p1, p2, p3]) (hpp : ∀ x ∈ [p0, p1, p2, p3], 1 ≤ x ∧ x ≤ 3000) (hI0 : Ii w (some ⟨q0, o0, none⟩) 2 m0 [v0, v1]) (hv0 : 0 ≤ v0) (hv0' : v0 ≤ 3000) (hv1 : 0 ≤ v1) (hv1' : v1 ≤ 3000) (hI1 : Ii w (some ⟨q1, o1, none⟩) 2 m1 [v2, v3]) (hv2 : 0 ≤ v2) (hv2' : v2 ≤ 3000) (hv3 : 0 ≤ v3) (hv3' : v3 ≤ 3000) (hc1 : 0 ≤ c) (hc2 : c ≤ 100000) (ho1 : 0 ≤ off) (ho2 : off ≤ 5) (hh1 : 1 ≤ hh) (hh2 : hh ≤ 3000) (hs1 : 0 ≤ slot) (hs2 : slot ≤ 20) (hwo : wo = false) :
  Calls Tryz.prog 70 #[.agg #[.int .i64 tab, .slice (some ⟨bp, ox, none⟩) 4 cp, .int .i64 hh, .slice (some ⟨q1, o1, none⟩) 2 m1, .slice (some ⟨q0, o0, none⟩) 2 m0, .int .i64 slot, .bool false, .int .i64 off], .agg #[.int .i64 l1, .int .i64 h1, .int .i64 l2, .int .i64 h2, .int .i64 l3, .int .i64 h3, .int .i64 l4, .int .i64 h4, .int .i64 l5, .int .i64 h5, .bool wo], .int .i64 c] w (fun e w' => e = .returned (.bool (closesOf ⟨tab, [p0, p1, p2, p3], hh, [v2, v3], [v0, v1], slot, false⟩ ⟨(l1, h1), (l2, h2), (l3, h3), (l4, h4), (l5, h5), wo⟩ off c)) ∧ Below w.heap.size w w') := by
 have hne : (false != wo) = false := by rw [hwo]; rfl
 have ho : (false == wo) = true := by rw [hwo]; rfl
 refine calls_fr Tryz.func70 Tryz.ntmps70 rfl rfl fun g hg => ?_
 have k0 : g 0 = .agg #[.int .i64 tab, .slice (some ⟨bp, ox, none⟩) 4 cp, .int .i64 hh, .slice (some ⟨q1, o1, none⟩) 2 m1, .slice (some ⟨q0, o0, none⟩) 2 m0, .int .i64 slot, .bool false, .int .i64 off] := hg 0
 have k1 : g 1 = .agg #[.int .i64 l1, .int .i64 h1, .int .i64 l2, .int .i64 h2, .int .i64 l3, .int .i64 h3, .int .i64 l4, .int .i64 h4, .int .i64 l5, .int .i64 h5, .bool wo] := hg 1
 have k2 : g 2 = .int .i64 c := hg 2
 clear hg
 have fB0 : Below w.heap.size w w := Below.refl _ _
 refine rw_ 4 [(3, 0), (4, 1), (5, 2), (6, 3)] [[], [], [], []] (rel [bx 0 #[.int .i64 tab, .slice (some ⟨bp, ox, none⟩) 4 cp, .int .i64 hh, .slice (some ⟨q1, o1, none⟩) 2 m1, .slice (some ⟨q0, o0, none⟩) 2 m0, .int .i64 slot, .bool false, .int .i64 off] 127, bx 1 #[.int .i64 l1, .int .i64 h1, .int .i64 l2, .int .i64 h2, .int .i64 l3, .int .i64 h3, .int .i64 l4, .int .i64 h4, .int .i64 l5, .int .i64 h5, .bool wo] 43, bx 2 #[.int .i64 c] 3, iB false])
  ⟨fun f s W i j k l m a => opb rfl rfl (by simp [go_sem, a.e 0 k0]),
  fun f s W i j k l m a => opb rfl rfl (by simp [go_sem, a.e 1 k1]),
  fun f s W i j k l m a => opb rfl rfl (by simp [go_sem, a.e 2 k2]),
  fun f s W i j k l m a => opz, trivial⟩ ?_
 intro f1 s1 W1 hB1 g1 hg1 z1
 obtain ⟨r1_0, br1_0⟩ := hB1.is 0
 have lr1_0 := hB1.lr 0 br1_0
 obtain ⟨r1_1, br1_1⟩ := hB1.is 1
 have lr1_1 := hB1.lr 1 br1_1
 obtain ⟨r1_2, br1_2⟩ := hB1.is 2
 have lr1_2 := hB1.lr 2 br1_2
 have ne1_0_1 : s1 0 ≠ s1 1 := hB1.ne 0 1 (by decide) (by decide) (by decide) (fun _ _ _ h => ltb h.2) (fun _ _ _ h => ltb h.2)
 have ne1_0_2 : s1 0 ≠ s1 2 := hB1.ne 0 2 (by decide) (by decide) (by decide) (fun _ _ _ h => ltb h.2) (fun _ _ _ h => ltb h.2)
 have ne1_1_2 : s1 1 ≠ s1 2 := hB1.ne 1 2 (by decide) (by decide) (by decide) (fun _ _ _ h => ltb h.2) (fun _ _ _ h => ltb h.2)
 have k1_3 := kt hg1 3 r1_0
 have k1_4 := kt hg1 4 r1_1
 refine wp_seq_k fun K2 hK2 => ?_
 refine rw_ 7 [(11, 0), (12, 1), (13, 2), (14, 3), (15, 4), (16, 5), (17, 6)] [[], [0], [1], [2], [], [4], [3, 5]] (rel [is (.pointer (some ⟨(s1 0), 0, none⟩)), is (.pointer (some ⟨(s1 0), 0, none⟩)), is (.pointer (some ⟨(s1 0), 6, none⟩)), iB false, is (.pointer (some ⟨(s1 1), 10, none⟩)), iB wo, iB (false != wo)])
  ⟨fun f s W i j k l m a => opv rfl rfl (by simp [go_sem, a.e 3 k1_3]) rfl,
  fun f s W i j k l m a => opv rfl rfl (by simp [go_sem, a.e 11 (j 0 rfl)]) rfl,
  fun f s W i j k l m a => opv rfl rfl (by simp [go_sem, a.e 12 (j 1 rfl)]) rfl,
  fun f s W i j k l m a => opv rfl rfl (by simp [go_sem, a.e 13 (j 2 rfl), cb br1_0 i 6]) rfl,
  fun f s W i j k l m a => opv rfl rfl (by simp [go_sem, a.e 4 k1_4]) rfl,
  fun f s W i j k l m a => opv rfl rfl (by simp [go_sem, a.e 15 (j 4 rfl), cb br1_1 i 10]) rfl,
  fun f s W i j k l m a => opv rfl rfl (by simp [go_sem, a.e 14 (j 3 rfl), a.e 16 (j 5 rfl)]) rfl, trivial⟩ ?_
 intro f2 s2 W2 hB2 g2 hg2 z2
 have b2_0 := hB2.b br1_0
 have k2_3 := kt hg2 3 k1_3
 have k2_17 := kt hg2 17 (hB2.is 6)
 have hc4 : (fr 65 g2).eval (.tmp 17) = .bool false := ((fr_eval rfl).trans k2_17).trans (by rw [hne])
 refine wp_cond_false (hc4) ?_
 refine wp_skip ?_
 refine hK2 _ _ ?_
 refine wp_seq_k fun K5 hK5 => ?_
 refine ry 6 [(18, 0), (19, 1), (20, 2), (21, 3), (22, 4), (7, 5)] [[], [0], [1], [2], [3], [], [0, 1, 2, 3, 4, 5]] (rel [is (.pointer (some ⟨(s1 0), 0, none⟩)), is (.pointer (some ⟨(s1 0), 0, none⟩)), is (.pointer (some ⟨(s1 0), 4, none⟩)), is (.slice (some ⟨q0, o0, none⟩) 2 m0), row 4 1 #[.slice (some ⟨q0, o0, none⟩) 2 m0] 22, bx 5 #[.slice none 0 0] 152])
  ⟨fun f s W i j k l m a => opv rfl rfl (by simp [go_sem, a.e 3 k2_3]) rfl,
  fun f s W i j k l m a => opv rfl rfl (by simp [go_sem, a.e 18 (j 0 rfl)]) rfl,
  fun f s W i j k l m a => opv rfl rfl (by simp [go_sem, a.e 19 (j 1 rfl)]) rfl,
  fun f s W i j k l m a => opv rfl rfl (by simp [go_sem, a.e 20 (j 2 rfl), cb b2_0 i 4]) rfl,
  fun f s W i j k l m a => opr rfl rfl (by simp [go_sem, a.e 21 (j 3 rfl)]),
  fun f s W i j k l m a => opb rfl rfl (by simp [go_sem]), trivial⟩ ?_
 intro f3 s3 W3 hB3 g3 hg3 z3
 have fB3 := hB3.f (hB2.f (hB1.f fB0))
 have b3_0 := hB3.b b2_0
 have b3_1 := hB3.b (hB2.b br1_1)
 have b3_2 := hB3.b (hB2.b br1_2)
 obtain ⟨r3_4, br3_4⟩ := hB3.is 4
 have lr3_4 := hB3.lr 4 br3_4
 obtain ⟨r3_5, br3_5⟩ := hB3.is 5
 have lr3_5 := hB3.lr 5 br3_5
 have ne3_4_5 : s3 4 ≠ s3 5 := hB3.ne 4 5 (by decide) (by decide) (by decide) (fun _ _ _ h => ltb h.2) (fun _ _ _ h => ltb h.2)
 have k3_3 := kt hg3 3 k2_3
 have k3_22 := kt hg3 22 r3_4
 have k3_7 := kt hg3 7 r3_5
 obtain ⟨W4, hW4⟩ : ∃ W', W' = W3.setRow (s3 5) #[.slice (some ⟨(s3 4), 0, none⟩) (1) (1)] := ⟨_, rfl⟩
 refine tsk (o := _) rfl ⟨rfl, rfl⟩ (run_seg hW4 (fr_ev k3_7) (fr_ev k3_22) br3_5 rfl rfl rfl rfl) ?_
 obtain ⟨fB4, nb4, ot4, z4⟩ := sgf hW4 fB3 br3_5 (by omega)
 clear hW4
 have b4_0 := ot4 _ _ (by omega) b3_0
 have b4_1 := ot4 _ _ (by omega) b3_1
 have b4_2 := ot4 _ _ (by omega) b3_2
 have b4_3 := ot4 _ _ (by omega) br3_4
 refine wpe ?_
 refine hK5 _ _ ?_
 refine wp_seq_k fun K6 hK6 => ?_
 refine rw_ 5 [(23, 0), (24, 1), (25, 2), (26, 3), (27, 4)] [[], [0], [1], [2], [3]] (rel [is (.pointer (some ⟨(s1 0), 0, none⟩)), is (.pointer (some ⟨(s1 0), 0, none⟩)), is (.pointer (some ⟨(s1 0), 6, none⟩)), iB false, iB true])
  ⟨fun f s W i j k l m a => opv rfl rfl (by simp [go_sem, a.e 3 k3_3]) rfl,
  fun f s W i j k l m a => opv rfl rfl (by simp [go_sem, a.e 23 (j 0 rfl)]) rfl,
  fun f s W i j k l m a => opv rfl rfl (by simp [go_sem, a.e 24 (j 1 rfl)]) rfl,
  fun f s W i j k l m a => opv rfl rfl (by simp [go_sem, a.e 25 (j 2 rfl), cb b4_0 i 6]) rfl,
  fun f s W i j k l m a => opv rfl rfl (by simp [go_sem, a.e 26 (j 3 rfl)]) rfl, trivial⟩ ?_
 intro f5 s5 W5 hB5 g5 hg5 z5
 have fB5 := hB5.f fB4
 have b5_0 := hB5.b b4_0
 have b5_3 := hB5.b b4_3
 have b5_4 := hB5.b nb4
 have k5_3 := kt hg5 3 k3_3
 have k5_7 := kt hg5 7 k3_7
 have k5_27 := kt hg5 27 (hB5.is 4)
 refine wp_cond_true ((fr_eval rfl).trans k5_27) ?_
 refine rz 7 [(28, 0), (29, 1), (30, 2), (31, 3), (32, 4), (33, 5), (34, 6)] [[], [], [1], [2], [3], [4], [0, 5], [0, 1, 2, 3, 4, 5, 6]] (rel [is (.slice (some ⟨(s3 4), 0, none⟩) (1) (1)), is (.pointer (some ⟨(s1 0), 0, none⟩)), is (.pointer (some ⟨(s1 0), 0, none⟩)), is (.pointer (some ⟨(s1 0), 3, none⟩)), is (.slice (some ⟨q1, o1, none⟩) 2 m1), row 5 1 #[.slice (some ⟨q1, o1, none⟩) 2 m1] 22, ab fun v W => IsTwo W5.heap.size (.slice (some ⟨q0, o0, none⟩) 2 m0) (.slice (some ⟨q1, o1, none⟩) 2 m1) v W])
  ⟨is_k, is_k, is_k, is_k, is_k, row_k, ab_k fun v W W' hb h => h.below hb, trivial⟩
  ⟨fun f s W i j k l m a => opv rfl rfl (by simp [go_sem, a.e 7 k5_7, cb b5_4 i 0]) rfl,
  fun f s W i j k l m a => opv rfl rfl (by simp [go_sem, a.e 3 k5_3]) rfl,
  fun f s W i j k l m a => opv rfl rfl (by simp [go_sem, a.e 29 (j 1 rfl)]) rfl,
  fun f s W i j k l m a => opv rfl rfl (by simp [go_sem, a.e 30 (j 2 rfl)]) rfl,
  fun f s W i j k l m a => opv rfl rfl (by simp [go_sem, a.e 31 (j 3 rfl), cb b5_0 i 3]) rfl,
  fun f s W i j k l m a => opr rfl rfl (by simp [go_sem, a.e 32 (j 4 rfl)]),
  fun f s W i j k l m a => by have q := bwt fB5 i; obtain ⟨v_, W_, r_, b_, i_⟩ := grow2_run _ W _ _ (.slice (some ⟨q0, o0, none⟩) 2 m0) (.slice (some ⟨q1, o1, none⟩) 2 m1) (bwb b5_3 i) (j 5 rfl).2 W5.heap.size i.size; exact opDo_value rfl rfl (run_appendOp (a.v 28 (j 0 rfl)) (a.v 33 (j 5 rfl).1) r_) b_ i_, trivial⟩ ?_
 intro f6 s6 W6 hB6 g6 hg6 z6
 have fB6 := hB6.f fB5
 have b6_0 := hB6.b b5_0
 have b6_1 := hB6.b (hB5.b b4_1)
 have b6_2 := hB6.b (hB5.b b4_2)
 have b6_4 := hB6.b b5_4
 obtain ⟨r6_5, br6_5⟩ := hB6.is 5
 have lr6_5 := hB6.lr 5 br6_5
 obtain ⟨g1', c2', r6_6, q3', q4'⟩ := hB6.is 6
 have k6_3 := kt hg6 3 k5_3
 have k6_4 := kt hg6 4 (kt hg5 4 (kt hg3 4 (kt hg2 4 k1_4)))
 have k6_5 := kt hg6 5 (kt hg5 5 (kt hg3 5 (kt hg2 5 (kt hg1 5 r1_2))))
 have k6_7 := kt hg6 7 k5_7
 have k6_34 := kt hg6 34 r6_6
 obtain ⟨W7, hW7⟩ : ∃ W', W' = W6.setRow (s3 5) #[.slice (some ⟨g1', 0, none⟩) 2 c2'] := ⟨_, rfl⟩
 refine tsk (o := _) rfl ⟨rfl, rfl⟩ (run_seg hW7 (fr_ev k6_7) (fr_ev k6_34) b6_4 rfl rfl rfl rfl) ?_
 obtain ⟨fB7, nb7, ot7, z7⟩ := sgf hW7 fB6 b6_4 (by omega)
 clear hW7
 have b7_0 := ot7 _ _ (by omega) b6_0
 have b7_1 := ot7 _ _ (by omega) b6_1
 have b7_2 := ot7 _ _ (by omega) b6_2
 have q5' := q3'.other ot7 (by omega) z7
 refine wpe ?_
 refine hK6 _ _ ?_
 refine rw_ 2 [(35, 0), (8, 1)] [[], [0]] (rel [is (.func (.func 96) #[] #[.pointer (some ⟨(s1 0), 0, none⟩), .pointer (some ⟨(s1 2), 0, none⟩), .pointer (some ⟨(s1 1), 0, none⟩), .pointer (some ⟨(s3 5), 0, none⟩)]), is (.func (.func 96) #[] #[.pointer (some ⟨(s1 0), 0, none⟩), .pointer (some ⟨(s1 2), 0, none⟩), .pointer (some ⟨(s1 1), 0, none⟩), .pointer (some ⟨(s3 5), 0, none⟩)])])
  ⟨fun f s W i j k l m a => opv rfl rfl (by simp [go_sem, a.e 3 k6_3, a.e 5 k6_5, a.e 4 k6_4, a.e 7 k6_7]) rfl,
  fun f s W i j k l m a => opm (a.v 35 (j 0 rfl)), trivial⟩ ?_
 intro f8 s8 W8 hB8 g8 hg8 z8
 have q6' := (q5'.below hB8.below)
 refine wp_seq_k fun K10 hK10 => ?_
 refine rw_ 1 [(36, 0)] [[]] (rel [iI 0])
  ⟨fun f s W i j k l m a => opz, trivial⟩ ?_
 intro f9 s9 W9 hB9 g9 hg9 z9
 have q7' := (q6'.below hB9.below)
 have k9_36 := kt hg9 36 (hB9.is 0)
 refine wp_block ?_
 refine wp_loop_rounds 5 ?_
 rw [rounds_succ]
 refine rw_ 1 [(37, 0)] [[]] (rel [iB true])
  ⟨fun f s W i j k l m a => opv rfl rfl (by simp [go_sem, a.e 36 k9_36]) rfl, trivial⟩ ?_
 intro f10 s10 W10 hB10 g10 hg10 z10
 have q8' := (q7'.below hB10.below)
 have k10_36 := kt hg10 36 k9_36
 have k10_37 := kt hg10 37 (hB10.is 0)
 refine wp_seq_k fun K13 hK13 => ?_
 refine wp_cond_true ((fr_eval rfl).trans k10_37) ?_
 refine wp_skip ?_
 refine hK13 _ _ ?_
 refine wp_seq_k fun K15 hK15 => ?_
 refine wp_block ?_
 refine rw_ 2 [(38, 0), (9, 1)] [[], [0]] (rel [iI 0, iI 0])
  ⟨fun f s W i j k l m a => opm (a.v 36 k10_36),
  fun f s W i j k l m a => opm (a.v 38 (j 0 rfl)), trivial⟩ ?_
 intro f11 s11 W11 hB11 g11 hg11 z11
 have fB11 := hB11.f (hB10.f (hB9.f (hB8.f fB7)))
 have b11_0 := hB11.b (hB10.b (hB9.b (hB8.b b7_0)))
 have b11_1 := hB11.b (hB10.b (hB9.b (hB8.b b7_1)))
 have b11_2 := hB11.b (hB10.b (hB9.b (hB8.b b7_2)))
 have b11_4 := hB11.b (hB10.b (hB9.b (hB8.b nb7)))
 have q9' := (q8'.below hB11.below)
 have k11_8 := kt hg11 8 (kt hg10 8 (kt hg9 8 (kt hg8 8 (hB8.is 1))))
 have k11_9 := kt hg11 9 (hB11.is 1)
 refine rw_ 4 [(39, 0), (40, 1), (41, 2), (42, 3)] [[], [], [0, 1], [2]] (rel [is (.func (.func 96) #[] #[.pointer (some ⟨(s1 0), 0, none⟩), .pointer (some ⟨(s1 2), 0, none⟩), .pointer (some ⟨(s1 1), 0, none⟩), .pointer (some ⟨(s3 5), 0, none⟩)]), iI 0, iB (someB 1 p0 off (fun p => okP ⟨(l1, h1), (l2, h2), (l3, h3), (l4, h4), (l5, h5), wo⟩ c off p [(v0, v1), (v2, v3)] 0)), iB (!(someB 1 p0 off (fun p => okP ⟨(l1, h1), (l2, h2), (l3, h3), (l4, h4), (l5, h5), wo⟩ c off p [(v0, v1), (v2, v3)] 0)))])
  ⟨fun f s W i j k l m a => opm (a.v 8 k11_8),
  fun f s W i j k l m a => opm (a.v 9 k11_9),
  fun f s W i j k l m a => by have q := bwt fB11 i; exact opc rfl rfl (by simp [go_sem, a.e 40 (j 1 rfl), a.e 39 (j 0 rfl)]) (closesI_0_2 (.int .i64 tab) (.int .i64 hh) (.slice (some ⟨q1, o1, none⟩) 2 m1) (.slice (some ⟨q0, o0, none⟩) 2 m0) (.int .i64 slot) (.bool false) l1 h1 l2 h2 l3 h3 l4 h4 l5 h5 wo hw c off p0 p1 p2 p3 v0 v1 v2 v3 q0 o0 m0 q1 o1 m1 bp ox cp g1' c2' (s1 0) (s1 2) (s1 1) (s3 5) W (hP.below q (Nat.le_refl _)) hpp ((q9'.below i)).1 ((q9'.below i)).2.1 (hI0.below q (Nat.le_refl _)) hv0 hv0' hv1 hv1' ((q9'.below i)).2.2 (hI1.below q (Nat.le_refl _)) hv2 hv2' hv3 hv3' hc1 hc2 ho1 ho2 (bwb b11_0 i) (bwb b11_2 i) (bwb b11_1 i) (bwb b11_4 i)),
  fun f s W i j k l m a => opv rfl rfl (by simp [go_sem, a.e 41 (j 2 rfl)]) rfl, trivial⟩ ?_
 intro f12 s12 W12 hB12 g12 hg12 z12
 have fB12 := hB12.f fB11
 have q10' := (q9'.below hB12.below)
 have k12_36 := kt hg12 36 (kt hg11 36 k10_36)
 have k12_42 := kt hg12 42 (hB12.is 3)
 refine wp_cond_split (t := !(someB 1 p0 off (fun p => okP ⟨(l1, h1), (l2, h2), (l3, h3), (l4, h4), (l5, h5), wo⟩ c off p [(v0, v1), (v2, v3)] 0))) ((fr_eval rfl).trans k12_42) (fun hc18 => ?_) (fun hc18 => ?_)
 ·
  have hc18' := hc18; try simp only [ba] at hc18'
  refine rw_ 1 [(6, 0)] [[]] (rel [iB false])
   ⟨fun f s W i j k l m a => opz, trivial⟩ ?_
  intro f13 s13 W13 hB13 g13 hg13 z13
  have fB13 := hB13.f fB12
  have q11' := (q10'.below hB13.below)
  have k13_6 := kt hg13 6 (hB13.is 0)
  refine wp_ret ?_
  refine inBlock_ret (then_ret (then_ret (inBlock_ret (then_ret ?_))))
  refine leave_one (N := 65) (.inr rfl) Tryz.results70 rfl k13_6 ?_
  have e : closesOf ⟨tab, [p0, p1, p2, p3], hh, [v2, v3], [v0, v1], slot, false⟩ ⟨(l1, h1), (l2, h2), (l3, h3), (l4, h4), (l5, h5), wo⟩ off c = ((false == wo) && (someB 1 p0 off (fun p => okP ⟨(l1, h1), (l2, h2), (l3, h3), (l4, h4), (l5, h5), wo⟩ c off p [(v0, v1), (v2, v3)] 0) && (someB 1 p1 off (fun p => okP ⟨(l1, h1), (l2, h2), (l3, h3), (l4, h4), (l5, h5), wo⟩ c off p [(v0, v1), (v2, v3)] 1) && (someB 1 p2 off (fun p => okP ⟨(l1, h1), (l2, h2), (l3, h3), (l4, h4), (l5, h5), wo⟩ c off p [(v0, v1), (v2, v3)] 2) && (someB 1 p3 off (fun p => okP ⟨(l1, h1), (l2, h2), (l3, h3), (l4, h4), (l5, h5), wo⟩ c off p [(v0, v1), (v2, v3)] 3) && (decide (c ≤ 1000 * min 20 (slot + off)) && someB 1 hh off fun n => isInOf n (foldsOf false) c (l3, h3))))))) := rfl
  have t0 := not_t hc18
  exact ⟨ret_bool (by rw [e]; simp only [ho, t0, Bool.true_and, Bool.false_and]), fB13⟩
 ·
  have hc18' := hc18; try simp only [ba] at hc18'
  refine wp_skip ?_
  refine ibn ?_
  refine hK15 _ _ ?_
  refine ry 2 [(43, 0), (36, 1)] [[], [0]] (rel [iI 1, iI 1])
   ⟨fun f s W i j k l m a => opv rfl rfl (by simp [go_sem, a.e 36 ((l 1 36 rfl rfl).trans k12_36), IntWalk.i64_in (1) (by omega)]) rfl,
  fun f s W i j k l m a => opm (a.v 43 (j 0 rfl)), trivial⟩ ?_
  intro f14 s14 W14 hB14 g14 hg14 z14
  have q12' := (q10'.below hB14.below)
  refine wpe ?_
  have k14_36 := kt hg14 36 (hB14.is 1)
  refine then_normal ?_
  rw [rounds_succ]
  refine rw_ 1 [(37, 0)] [[]] (rel [iB true])
   ⟨fun f s W i j k l m a => opv rfl rfl (by simp [go_sem, a.e 36 k14_36]) rfl, trivial⟩ ?_
  intro f15 s15 W15 hB15 g15 hg15 z15
  have q13' := (q12'.below hB15.below)
  have k15_36 := kt hg15 36 k14_36
  have k15_37 := kt hg15 37 (hB15.is 0)
  refine wp_seq_k fun K21 hK21 => ?_
  refine wp_cond_true ((fr_eval rfl).trans k15_37) ?_
  refine wp_skip ?_
  refine hK21 _ _ ?_
  refine wp_seq_k fun K23 hK23 => ?_
  refine wp_block ?_
  refine rw_ 2 [(38, 0), (9, 1)] [[], [0]] (rel [iI 1, iI 1])
   ⟨fun f s W i j k l m a => opm (a.v 36 k15_36),
  fun f s W i j k l m a => opm (a.v 38 (j 0 rfl)), trivial⟩ ?_
  intro f16 s16 W16 hB16 g16 hg16 z16
  have fB16 := hB16.f (hB15.f (hB14.f fB12))
  have b16_0 := hB16.b (hB15.b (hB14.b (hB12.b b11_0)))
  have b16_1 := hB16.b (hB15.b (hB14.b (hB12.b b11_1)))
  have b16_2 := hB16.b (hB15.b (hB14.b (hB12.b b11_2)))
  have b16_4 := hB16.b (hB15.b (hB14.b (hB12.b b11_4)))
  have q14' := (q13'.below hB16.below)
  have k16_8 := kt hg16 8 (kt hg15 8 (kt hg14 8 (kt hg12 8 k11_8)))
  have k16_9 := kt hg16 9 (hB16.is 1)
  refine rw_ 4 [(39, 0), (40, 1), (41, 2), (42, 3)] [[], [], [0, 1], [2]] (rel [is (.func (.func 96) #[] #[.pointer (some ⟨(s1 0), 0, none⟩), .pointer (some ⟨(s1 2), 0, none⟩), .pointer (some ⟨(s1 1), 0, none⟩), .pointer (some ⟨(s3 5), 0, none⟩)]), iI 1, iB (someB 1 p1 off (fun p => okP ⟨(l1, h1), (l2, h2), (l3, h3), (l4, h4), (l5, h5), wo⟩ c off p [(v0, v1), (v2, v3)] 1)), iB (!(someB 1 p1 off (fun p => okP ⟨(l1, h1), (l2, h2), (l3, h3), (l4, h4), (l5, h5), wo⟩ c off p [(v0, v1), (v2, v3)] 1)))])
   ⟨fun f s W i j k l m a => opm (a.v 8 k16_8),
  fun f s W i j k l m a => opm (a.v 9 k16_9),
  fun f s W i j k l m a => by have q := bwt fB16 i; exact opc rfl rfl (by simp [go_sem, a.e 40 (j 1 rfl), a.e 39 (j 0 rfl)]) (closesI_1_2 (.int .i64 tab) (.int .i64 hh) (.slice (some ⟨q1, o1, none⟩) 2 m1) (.slice (some ⟨q0, o0, none⟩) 2 m0) (.int .i64 slot) (.bool false) l1 h1 l2 h2 l3 h3 l4 h4 l5 h5 wo hw c off p0 p1 p2 p3 v0 v1 v2 v3 q0 o0 m0 q1 o1 m1 bp ox cp g1' c2' (s1 0) (s1 2) (s1 1) (s3 5) W (hP.below q (Nat.le_refl _)) hpp ((q14'.below i)).1 ((q14'.below i)).2.1 (hI0.below q (Nat.le_refl _)) hv0 hv0' hv1 hv1' ((q14'.below i)).2.2 (hI1.below q (Nat.le_refl _)) hv2 hv2' hv3 hv3' hc1 hc2 ho1 ho2 (bwb b16_0 i) (bwb b16_2 i) (bwb b16_1 i) (bwb b16_4 i)),
  fun f s W i j k l m a => opv rfl rfl (by simp [go_sem, a.e 41 (j 2 rfl)]) rfl, trivial⟩ ?_
  intro f17 s17 W17 hB17 g17 hg17 z17
  have fB17 := hB17.f fB16
  have q15' := (q14'.below hB17.below)
  have k17_36 := kt hg17 36 (kt hg16 36 k15_36)
  have k17_42 := kt hg17 42 (hB17.is 3)
  refine wp_cond_split (t := !(someB 1 p1 off (fun p => okP ⟨(l1, h1), (l2, h2), (l3, h3), (l4, h4), (l5, h5), wo⟩ c off p [(v0, v1), (v2, v3)] 1))) ((fr_eval rfl).trans k17_42) (fun hc26 => ?_) (fun hc26 => ?_)
  ·
   have hc26' := hc26; try simp only [ba] at hc26'
   refine rw_ 1 [(6, 0)] [[]] (rel [iB false])
    ⟨fun f s W i j k l m a => opz, trivial⟩ ?_
   intro f18 s18 W18 hB18 g18 hg18 z18
   have fB18 := hB18.f fB17
   have q16' := (q15'.below hB18.below)
   have k18_6 := kt hg18 6 (hB18.is 0)
   refine wp_ret ?_
   refine inBlock_ret (then_ret (then_ret (inBlock_ret (then_ret ?_))))
   refine leave_one (N := 65) (.inr rfl) Tryz.results70 rfl k18_6 ?_
   have e : closesOf ⟨tab, [p0, p1, p2, p3], hh, [v2, v3], [v0, v1], slot, false⟩ ⟨(l1, h1), (l2, h2), (l3, h3), (l4, h4), (l5, h5), wo⟩ off c = ((false == wo) && (someB 1 p0 off (fun p => okP ⟨(l1, h1), (l2, h2), (l3, h3), (l4, h4), (l5, h5), wo⟩ c off p [(v0, v1), (v2, v3)] 0) && (someB 1 p1 off (fun p => okP ⟨(l1, h1), (l2, h2), (l3, h3), (l4, h4), (l5, h5), wo⟩ c off p [(v0, v1), (v2, v3)] 1) && (someB 1 p2 off (fun p => okP ⟨(l1, h1), (l2, h2), (l3, h3), (l4, h4), (l5, h5), wo⟩ c off p [(v0, v1), (v2, v3)] 2) && (someB 1 p3 off (fun p => okP ⟨(l1, h1), (l2, h2), (l3, h3), (l4, h4), (l5, h5), wo⟩ c off p [(v0, v1), (v2, v3)] 3) && (decide (c ≤ 1000 * min 20 (slot + off)) && someB 1 hh off fun n => isInOf n (foldsOf false) c (l3, h3))))))) := rfl
   have t0 := not_f hc18
   have t1 := not_t hc26
   exact ⟨ret_bool (by rw [e]; simp only [ho, t0, t1, Bool.true_and, Bool.false_and]), fB18⟩
  ·
   have hc26' := hc26; try simp only [ba] at hc26'
   refine wp_skip ?_
   refine ibn ?_
   refine hK23 _ _ ?_
   refine ry 2 [(43, 0), (36, 1)] [[], [0]] (rel [iI 2, iI 2])
    ⟨fun f s W i j k l m a => opv rfl rfl (by simp [go_sem, a.e 36 ((l 1 36 rfl rfl).trans k17_36), IntWalk.i64_in (2) (by omega)]) rfl,
  fun f s W i j k l m a => opm (a.v 43 (j 0 rfl)), trivial⟩ ?_
   intro f19 s19 W19 hB19 g19 hg19 z19
   have q17' := (q15'.below hB19.below)
   refine wpe ?_
   have k19_36 := kt hg19 36 (hB19.is 1)
   refine then_normal ?_
   rw [rounds_succ]
   refine rw_ 1 [(37, 0)] [[]] (rel [iB true])
    ⟨fun f s W i j k l m a => opv rfl rfl (by simp [go_sem, a.e 36 k19_36]) rfl, trivial⟩ ?_
   intro f20 s20 W20 hB20 g20 hg20 z20
   have fB20 := hB20.f (hB19.f fB17)
   have b20_0 := hB20.b (hB19.b (hB17.b b16_0))
   have b20_1 := hB20.b (hB19.b (hB17.b b16_1))
   have b20_2 := hB20.b (hB19.b (hB17.b b16_2))
   have b20_4 := hB20.b (hB19.b (hB17.b b16_4))
   have q18' := (q17'.below hB20.below)
   have k20_3 := kt hg20 3 (kt hg19 3 (kt hg17 3 (kt hg16 3 (kt hg15 3 (kt hg14 3 (kt hg12 3 (kt hg11 3 (kt hg10 3 (kt hg9 3 (kt hg8 3 k6_3))))))))))
   have k20_4 := kt hg20 4 (kt hg19 4 (kt hg17 4 (kt hg16 4 (kt hg15 4 (kt hg14 4 (kt hg12 4 (kt hg11 4 (kt hg10 4 (kt hg9 4 (kt hg8 4 k6_4))))))))))
   have k20_5 := kt hg20 5 (kt hg19 5 (kt hg17 5 (kt hg16 5 (kt hg15 5 (kt hg14 5 (kt hg12 5 (kt hg11 5 (kt hg10 5 (kt hg9 5 (kt hg8 5 k6_5))))))))))
   have k20_8 := kt hg20 8 (kt hg19 8 (kt hg17 8 k16_8))
   have k20_36 := kt hg20 36 k19_36
   have k20_37 := kt hg20 37 (hB20.is 0)
   refine wp_seq_k fun K29 hK29 => ?_
   refine wp_cond_true ((fr_eval rfl).trans k20_37) ?_
   refine wp_skip ?_
   refine hK29 _ _ ?_
   refine wp_seq_k fun K31 hK31 => ?_
   refine wp_block ?_
   refine rw_ 2 [(38, 0), (9, 1)] [[], [0]] (rel [iI 2, iI 2])
    ⟨fun f s W i j k l m a => opm (a.v 36 k20_36),
  fun f s W i j k l m a => opm (a.v 38 (j 0 rfl)), trivial⟩ ?_
   intro f21 s21 W21 hB21 g21 hg21 z21
   have fB21 := hB21.f fB20
   have b21_0 := hB21.b b20_0
   have b21_1 := hB21.b b20_1
   have b21_2 := hB21.b b20_2
   have b21_4 := hB21.b b20_4
   have q19' := (q18'.below hB21.below)
   have k21_3 := kt hg21 3 k20_3
   have k21_4 := kt hg21 4 k20_4
   have k21_5 := kt hg21 5 k20_5
   have k21_8 := kt hg21 8 k20_8
   have k21_36 := kt hg21 36 k20_36
   have k21_9 := kt hg21 9 (hB21.is 1)
   refine rw_ 4 [(39, 0), (40, 1), (41, 2), (42, 3)] [[], [], [0, 1], [2]] (rel [is (.func (.func 96) #[] #[.pointer (some ⟨(s1 0), 0, none⟩), .pointer (some ⟨(s1 2), 0, none⟩), .pointer (some ⟨(s1 1), 0, none⟩), .pointer (some ⟨(s3 5), 0, none⟩)]), iI 2, iB (someB 1 p2 off (fun p => okP ⟨(l1, h1), (l2, h2), (l3, h3), (l4, h4), (l5, h5), wo⟩ c off p [(v0, v1), (v2, v3)] 2)), iB (!(someB 1 p2 off (fun p => okP ⟨(l1, h1), (l2, h2), (l3, h3), (l4, h4), (l5, h5), wo⟩ c off p [(v0, v1), (v2, v3)] 2)))])
    ⟨fun f s W i j k l m a => opm (a.v 8 k21_8),
  fun f s W i j k l m a => opm (a.v 9 k21_9),
  fun f s W i j k l m a => by have q := bwt fB21 i; exact opc rfl rfl (by simp [go_sem, a.e 40 (j 1 rfl), a.e 39 (j 0 rfl)]) (closesI_2_2 (.int .i64 tab) (.int .i64 hh) (.slice (some ⟨q1, o1, none⟩) 2 m1) (.slice (some ⟨q0, o0, none⟩) 2 m0) (.int .i64 slot) (.bool false) l1 h1 l2 h2 l3 h3 l4 h4 l5 h5 wo hw c off p0 p1 p2 p3 v0 v1 v2 v3 q0 o0 m0 q1 o1 m1 bp ox cp g1' c2' (s1 0) (s1 2) (s1 1) (s3 5) W (hP.below q (Nat.le_refl _)) hpp ((q19'.below i)).1 ((q19'.below i)).2.1 (hI0.below q (Nat.le_refl _)) hv0 hv0' hv1 hv1' ((q19'.below i)).2.2 (hI1.below q (Nat.le_refl _)) hv2 hv2' hv3 hv3' hc1 hc2 ho1 ho2 (bwb b21_0 i) (bwb b21_2 i) (bwb b21_1 i) (bwb b21_4 i)),
  fun f s W i j k l m a => opv rfl rfl (by simp [go_sem, a.e 41 (j 2 rfl)]) rfl, trivial⟩ ?_
   intro f22 s22 W22 hB22 g22 hg22 z22
   have fB22 := hB22.f fB21
   have b22_0 := hB22.b b21_0
   have b22_1 := hB22.b b21_1
   have b22_2 := hB22.b b21_2
   have b22_4 := hB22.b b21_4
   have q20' := (q19'.below hB22.below)
   have k22_3 := kt hg22 3 k21_3
   have k22_4 := kt hg22 4 k21_4
   have k22_5 := kt hg22 5 k21_5
   have k22_8 := kt hg22 8 k21_8
   have k22_36 := kt hg22 36 k21_36
   have k22_42 := kt hg22 42 (hB22.is 3)
   refine wp_cond_split (t := !(someB 1 p2 off (fun p => okP ⟨(l1, h1), (l2, h2), (l3, h3), (l4, h4), (l5, h5), wo⟩ c off p [(v0, v1), (v2, v3)] 2))) ((fr_eval rfl).trans k22_42) (fun hc34 => ?_) (fun hc34 => ?_)
   ·
    have hc34' := hc34; try simp only [ba] at hc34'
    refine rw_ 1 [(6, 0)] [[]] (rel [iB false])
     ⟨fun f s W i j k l m a => opz, trivial⟩ ?_
    intro f23 s23 W23 hB23 g23 hg23 z23
    have fB23 := hB23.f fB22
    have q21' := (q20'.below hB23.below)
    have k23_6 := kt hg23 6 (hB23.is 0)
    refine wp_ret ?_
    refine inBlock_ret (then_ret (then_ret (inBlock_ret (then_ret ?_))))
    refine leave_one (N := 65) (.inr rfl) Tryz.results70 rfl k23_6 ?_
    have e : closesOf ⟨tab, [p0, p1, p2, p3], hh, [v2, v3], [v0, v1], slot, false⟩ ⟨(l1, h1), (l2, h2), (l3, h3), (l4, h4), (l5, h5), wo⟩ off c = ((false == wo) && (someB 1 p0 off (fun p => okP ⟨(l1, h1), (l2, h2), (l3, h3), (l4, h4), (l5, h5), wo⟩ c off p [(v0, v1), (v2, v3)] 0) && (someB 1 p1 off (fun p => okP ⟨(l1, h1), (l2, h2), (l3, h3), (l4, h4), (l5, h5), wo⟩ c off p [(v0, v1), (v2, v3)] 1) && (someB 1 p2 off (fun p => okP ⟨(l1, h1), (l2, h2), (l3, h3), (l4, h4), (l5, h5), wo⟩ c off p [(v0, v1), (v2, v3)] 2) && (someB 1 p3 off (fun p => okP ⟨(l1, h1), (l2, h2), (l3, h3), (l4, h4), (l5, h5), wo⟩ c off p [(v0, v1), (v2, v3)] 3) && (decide (c ≤ 1000 * min 20 (slot + off)) && someB 1 hh off fun n => isInOf n (foldsOf false) c (l3, h3))))))) := rfl
    have t0 := not_f hc18
    have t1 := not_f hc26
    have t2 := not_t hc34
    exact ⟨ret_bool (by rw [e]; simp only [ho, t0, t1, t2, Bool.true_and, Bool.false_and]), fB23⟩
   ·
    have hc34' := hc34; try simp only [ba] at hc34'
    refine wp_skip ?_
    refine ibn ?_
    refine hK31 _ _ ?_
    refine ry 2 [(43, 0), (36, 1)] [[], [0]] (rel [iI 3, iI 3])
     ⟨fun f s W i j k l m a => opv rfl rfl (by simp [go_sem, a.e 36 ((l 1 36 rfl rfl).trans k22_36), IntWalk.i64_in (3) (by omega)]) rfl,
  fun f s W i j k l m a => opm (a.v 43 (j 0 rfl)), trivial⟩ ?_
    intro f24 s24 W24 hB24 g24 hg24 z24
    have q22' := (q20'.below hB24.below)
    refine wpe ?_
    have k24_36 := kt hg24 36 (hB24.is 1)
    refine then_normal ?_
    rw [rounds_succ]
    refine rw_ 1 [(37, 0)] [[]] (rel [iB true])
     ⟨fun f s W i j k l m a => opv rfl rfl (by simp [go_sem, a.e 36 k24_36]) rfl, trivial⟩ ?_
    intro f25 s25 W25 hB25 g25 hg25 z25
    have fB25 := hB25.f (hB24.f fB22)
    have b25_0 := hB25.b (hB24.b b22_0)
    have b25_1 := hB25.b (hB24.b b22_1)
    have b25_2 := hB25.b (hB24.b b22_2)
    have b25_4 := hB25.b (hB24.b b22_4)
    have q23' := (q22'.below hB25.below)
    have k25_3 := kt hg25 3 (kt hg24 3 k22_3)
    have k25_4 := kt hg25 4 (kt hg24 4 k22_4)
    have k25_5 := kt hg25 5 (kt hg24 5 k22_5)
    have k25_8 := kt hg25 8 (kt hg24 8 k22_8)
    have k25_36 := kt hg25 36 k24_36
    have k25_37 := kt hg25 37 (hB25.is 0)
    refine wp_seq_k fun K37 hK37 => ?_
    refine wp_cond_true ((fr_eval rfl).trans k25_37) ?_
    refine wp_skip ?_
    refine hK37 _ _ ?_
    refine wp_seq_k fun K39 hK39 => ?_
    refine wp_block ?_
    refine rw_ 2 [(38, 0), (9, 1)] [[], [0]] (rel [iI 3, iI 3])
     ⟨fun f s W i j k l m a => opm (a.v 36 k25_36),
  fun f s W i j k l m a => opm (a.v 38 (j 0 rfl)), trivial⟩ ?_
    intro f26 s26 W26 hB26 g26 hg26 z26
    have fB26 := hB26.f fB25
    have b26_0 := hB26.b b25_0
    have b26_1 := hB26.b b25_1
    have b26_2 := hB26.b b25_2
    have b26_4 := hB26.b b25_4
    have q24' := (q23'.below hB26.below)
    have k26_3 := kt hg26 3 k25_3
    have k26_4 := kt hg26 4 k25_4
    have k26_5 := kt hg26 5 k25_5
    have k26_8 := kt hg26 8 k25_8
    have k26_36 := kt hg26 36 k25_36
    have k26_9 := kt hg26 9 (hB26.is 1)
    refine rw_ 4 [(39, 0), (40, 1), (41, 2), (42, 3)] [[], [], [0, 1], [2]] (rel [is (.func (.func 96) #[] #[.pointer (some ⟨(s1 0), 0, none⟩), .pointer (some ⟨(s1 2), 0, none⟩), .pointer (some ⟨(s1 1), 0, none⟩), .pointer (some ⟨(s3 5), 0, none⟩)]), iI 3, iB (someB 1 p3 off (fun p => okP ⟨(l1, h1), (l2, h2), (l3, h3), (l4, h4), (l5, h5), wo⟩ c off p [(v0, v1), (v2, v3)] 3)), iB (!(someB 1 p3 off (fun p => okP ⟨(l1, h1), (l2, h2), (l3, h3), (l4, h4), (l5, h5), wo⟩ c off p [(v0, v1), (v2, v3)] 3)))])
     ⟨fun f s W i j k l m a => opm (a.v 8 k26_8),
  fun f s W i j k l m a => opm (a.v 9 k26_9),
  fun f s W i j k l m a => by have q := bwt fB26 i; exact opc rfl rfl (by simp [go_sem, a.e 40 (j 1 rfl), a.e 39 (j 0 rfl)]) (closesI_3_2 (.int .i64 tab) (.int .i64 hh) (.slice (some ⟨q1, o1, none⟩) 2 m1) (.slice (some ⟨q0, o0, none⟩) 2 m0) (.int .i64 slot) (.bool false) l1 h1 l2 h2 l3 h3 l4 h4 l5 h5 wo hw c off p0 p1 p2 p3 v0 v1 v2 v3 q0 o0 m0 q1 o1 m1 bp ox cp g1' c2' (s1 0) (s1 2) (s1 1) (s3 5) W (hP.below q (Nat.le_refl _)) hpp ((q24'.below i)).1 ((q24'.below i)).2.1 (hI0.below q (Nat.le_refl _)) hv0 hv0' hv1 hv1' ((q24'.below i)).2.2 (hI1.below q (Nat.le_refl _)) hv2 hv2' hv3 hv3' hc1 hc2 ho1 ho2 (bwb b26_0 i) (bwb b26_2 i) (bwb b26_1 i) (bwb b26_4 i)),
  fun f s W i j k l m a => opv rfl rfl (by simp [go_sem, a.e 41 (j 2 rfl)]) rfl, trivial⟩ ?_
    intro f27 s27 W27 hB27 g27 hg27 z27
    have fB27 := hB27.f fB26
    have b27_0 := hB27.b b26_0
    have b27_1 := hB27.b b26_1
    have b27_2 := hB27.b b26_2
    have q25' := (q24'.below hB27.below)
    have k27_3 := kt hg27 3 k26_3
    have k27_4 := kt hg27 4 k26_4
    have k27_5 := kt hg27 5 k26_5
    have k27_36 := kt hg27 36 k26_36
    have k27_42 := kt hg27 42 (hB27.is 3)
    refine wp_cond_split (t := !(someB 1 p3 off (fun p => okP ⟨(l1, h1), (l2, h2), (l3, h3), (l4, h4), (l5, h5), wo⟩ c off p [(v0, v1), (v2, v3)] 3))) ((fr_eval rfl).trans k27_42) (fun hc42 => ?_) (fun hc42 => ?_)
    ·
     have hc42' := hc42; try simp only [ba] at hc42'
     refine rw_ 1 [(6, 0)] [[]] (rel [iB false])
      ⟨fun f s W i j k l m a => opz, trivial⟩ ?_
     intro f28 s28 W28 hB28 g28 hg28 z28
     have fB28 := hB28.f fB27
     have q26' := (q25'.below hB28.below)
     have k28_6 := kt hg28 6 (hB28.is 0)
     refine wp_ret ?_
     refine inBlock_ret (then_ret (then_ret (inBlock_ret (then_ret ?_))))
     refine leave_one (N := 65) (.inr rfl) Tryz.results70 rfl k28_6 ?_
     have e : closesOf ⟨tab, [p0, p1, p2, p3], hh, [v2, v3], [v0, v1], slot, false⟩ ⟨(l1, h1), (l2, h2), (l3, h3), (l4, h4), (l5, h5), wo⟩ off c = ((false == wo) && (someB 1 p0 off (fun p => okP ⟨(l1, h1), (l2, h2), (l3, h3), (l4, h4), (l5, h5), wo⟩ c off p [(v0, v1), (v2, v3)] 0) && (someB 1 p1 off (fun p => okP ⟨(l1, h1), (l2, h2), (l3, h3), (l4, h4), (l5, h5), wo⟩ c off p [(v0, v1), (v2, v3)] 1) && (someB 1 p2 off (fun p => okP ⟨(l1, h1), (l2, h2), (l3, h3), (l4, h4), (l5, h5), wo⟩ c off p [(v0, v1), (v2, v3)] 2) && (someB 1 p3 off (fun p => okP ⟨(l1, h1), (l2, h2), (l3, h3), (l4, h4), (l5, h5), wo⟩ c off p [(v0, v1), (v2, v3)] 3) && (decide (c ≤ 1000 * min 20 (slot + off)) && someB 1 hh off fun n => isInOf n (foldsOf false) c (l3, h3))))))) := rfl
     have t0 := not_f hc18
     have t1 := not_f hc26
     have t2 := not_f hc34
     have t3 := not_t hc42
     exact ⟨ret_bool (by rw [e]; simp only [ho, t0, t1, t2, t3, Bool.true_and, Bool.false_and]), fB28⟩
    ·
     have hc42' := hc42; try simp only [ba] at hc42'
     refine wp_skip ?_
     refine ibn ?_
     refine hK39 _ _ ?_
     refine ry 2 [(43, 0), (36, 1)] [[], [0]] (rel [iI 4, iI 4])
      ⟨fun f s W i j k l m a => opv rfl rfl (by simp [go_sem, a.e 36 ((l 1 36 rfl rfl).trans k27_36), IntWalk.i64_in (4) (by omega)]) rfl,
  fun f s W i j k l m a => opm (a.v 43 (j 0 rfl)), trivial⟩ ?_
     intro f29 s29 W29 hB29 g29 hg29 z29
     have q27' := (q25'.below hB29.below)
     refine wpe ?_
     have k29_36 := kt hg29 36 (hB29.is 1)
     refine then_normal ?_
     rw [rounds_succ]
     refine rw_ 1 [(37, 0)] [[]] (rel [iB false])
      ⟨fun f s W i j k l m a => opv rfl rfl (by simp [go_sem, a.e 36 k29_36]) rfl, trivial⟩ ?_
     intro f30 s30 W30 hB30 g30 hg30 z30
     have fB30 := hB30.f (hB29.f fB27)
     have b30_0 := hB30.b (hB29.b b27_0)
     have b30_1 := hB30.b (hB29.b b27_1)
     have b30_2 := hB30.b (hB29.b b27_2)
     have q28' := (q27'.below hB30.below)
     have k30_3 := kt hg30 3 (kt hg29 3 k27_3)
     have k30_4 := kt hg30 4 (kt hg29 4 k27_4)
     have k30_5 := kt hg30 5 (kt hg29 5 k27_5)
     have k30_37 := kt hg30 37 (hB30.is 0)
     refine wp_seq_k fun K45 hK45 => ?_
     refine wp_cond_false ((fr_eval rfl).trans k30_37) ?_
     refine wp_exit ?_
     refine then_exit ?_
     refine then_exit ?_
     refine inBlock_at ?_
     refine hK10 _ _ ?_
     refine rw_ 9 [(44, 0), (45, 1), (46, 2), (47, 3), (48, 4), (49, 5), (50, 6), (51, 7), (10, 8)] [[], [0], [1], [2], [], [4], [3, 5], [6], [7]] (rel [is (.pointer (some ⟨(s1 0), 0, none⟩)), is (.pointer (some ⟨(s1 0), 0, none⟩)), is (.pointer (some ⟨(s1 0), 5, none⟩)), iI slot, is (.pointer (some ⟨(s1 0), 7, none⟩)), iI off, iI (slot + off), iI (min 20 (slot + off)), iI (min 20 (slot + off))])
      ⟨fun f s W i j k l m a => opv rfl rfl (by simp [go_sem, a.e 3 k30_3]) rfl,
  fun f s W i j k l m a => opv rfl rfl (by simp [go_sem, a.e 44 (j 0 rfl)]) rfl,
  fun f s W i j k l m a => opv rfl rfl (by simp [go_sem, a.e 45 (j 1 rfl)]) rfl,
  fun f s W i j k l m a => opv rfl rfl (by simp [go_sem, a.e 46 (j 2 rfl), cb b30_0 i 5]) rfl,
  fun f s W i j k l m a => opv rfl rfl (by simp [go_sem, a.e 3 k30_3]) rfl,
  fun f s W i j k l m a => opv rfl rfl (by simp [go_sem, a.e 48 (j 4 rfl), cb b30_0 i 7]) rfl,
  fun f s W i j k l m a => opv rfl rfl (by simp [go_sem, a.e 47 (j 3 rfl), a.e 49 (j 5 rfl), IntWalk.i64_in (slot + off) (by omega)]) rfl,
  fun f s W i j k l m a => opv rfl rfl (by simp [go_sem, a.e 50 (j 6 rfl)]) rfl,
  fun f s W i j k l m a => opm (a.v 51 (j 7 rfl)), trivial⟩ ?_
     intro f31 s31 W31 hB31 g31 hg31 z31
     have fB31 := hB31.f fB30
     have b31_0 := hB31.b b30_0
     have b31_1 := hB31.b b30_1
     have b31_2 := hB31.b b30_2
     have q29' := (q28'.below hB31.below)
     have k31_3 := kt hg31 3 k30_3
     have k31_4 := kt hg31 4 k30_4
     have k31_5 := kt hg31 5 k30_5
     have k31_10 := kt hg31 10 (hB31.is 8)
     refine rw_ 14 [(52, 0), (53, 1), (54, 2), (55, 3), (56, 4), (57, 5), (58, 6), (59, 7), (60, 8), (61, 9), (62, 10), (63, 11), (64, 12), (6, 13)] [[], [0], [], [1, 2], [3], [4], [4], [4, 6], [4, 7], [4, 8], [4], [4, 5, 9, 10], [4, 11], [12]] (rel [iI (min 20 (slot + off)), iI (1000 * (min 20 (slot + off))), iI c, iB (decide (c ≤ (1000 * (min 20 (slot + off))))), iB (decide (c ≤ (1000 * (min 20 (slot + off))))), gd (decide (c ≤ (1000 * (min 20 (slot + off))))) true (is (.agg #[.int .i64 tab, .slice (some ⟨bp, ox, none⟩) 4 cp, .int .i64 hh, .slice (some ⟨q1, o1, none⟩) 2 m1, .slice (some ⟨q0, o0, none⟩) 2 m0, .int .i64 slot, .bool false, .int .i64 off])), gd (decide (c ≤ (1000 * (min 20 (slot + off))))) true (is (.pointer (some ⟨(s1 0), 0, none⟩))), gd (decide (c ≤ (1000 * (min 20 (slot + off))))) true (is (.pointer (some ⟨(s1 0), 0, none⟩))), gd (decide (c ≤ (1000 * (min 20 (slot + off))))) true (is (.pointer (some ⟨(s1 0), 2, none⟩))), gd (decide (c ≤ (1000 * (min 20 (slot + off))))) true (iI hh), gd (decide (c ≤ (1000 * (min 20 (slot + off))))) true (is (.func (.func 103) #[] #[.pointer (some ⟨(s1 0), 0, none⟩), .pointer (some ⟨(s1 2), 0, none⟩), .pointer (some ⟨(s1 1), 0, none⟩)])), gd (decide (c ≤ (1000 * (min 20 (slot + off))))) true (iB (someB 1 hh off (fun n => isInOf n (foldsOf false) c (l3, h3)))), iB ((decide (c ≤ (1000 * (min 20 (slot + off))))) && (someB 1 hh off (fun n => isInOf n (foldsOf false) c (l3, h3)))), iB ((decide (c ≤ (1000 * (min 20 (slot + off))))) && (someB 1 hh off (fun n => isInOf n (foldsOf false) c (l3, h3))))])
      ⟨fun f s W i j k l m a => opm (a.v 10 k31_10),
  fun f s W i j k l m a => opv rfl rfl (by simp [go_sem, a.e 52 (j 0 rfl), IntWalk.i64_in (1000 * (min 20 (slot + off))) (by omega)]) rfl,
  fun f s W i j k l m a => opv rfl rfl (by simp [go_sem, a.e 5 k31_5, cb b31_2 i 0]) rfl,
  fun f s W i j k l m a => opv rfl rfl (by simp [go_sem, a.e 53 (j 1 rfl), a.e 54 (j 2 rfl)]) rfl,
  fun f s W i j k l m a => opm (a.v 55 (j 3 rfl)),
  fun f s W i j k l m a => gdo rfl rfl (a.says (d := 56) rfl rfl (j 4 rfl)) fun hgd0 => gv (by simp [go_sem, a.e 3 k31_3, cb b31_0 i 0, cb b31_0 i 1, cb b31_0 i 2, cb b31_0 i 3, cb b31_0 i 4, cb b31_0 i 5, cb b31_0 i 6, cb b31_0 i 7]) rfl,
  fun f s W i j k l m a => gdo rfl rfl (a.says (d := 56) rfl rfl (j 4 rfl)) fun hgd0 => gv (by simp [go_sem, a.e 3 k31_3]) rfl,
  fun f s W i j k l m a => gdo rfl rfl (a.says (d := 56) rfl rfl (j 4 rfl)) fun hgd0 => gv (by simp [go_sem, a.e 58 ((j 6 rfl).1 hgd0)]) rfl,
  fun f s W i j k l m a => gdo rfl rfl (a.says (d := 56) rfl rfl (j 4 rfl)) fun hgd0 => gv (by simp [go_sem, a.e 59 ((j 7 rfl).1 hgd0)]) rfl,
  fun f s W i j k l m a => gdo rfl rfl (a.says (d := 56) rfl rfl (j 4 rfl)) fun hgd0 => gv (by simp [go_sem, a.e 60 ((j 8 rfl).1 hgd0), cb b31_0 i 2]) rfl,
  fun f s W i j k l m a => gdo rfl rfl (a.says (d := 56) rfl rfl (j 4 rfl)) fun hgd0 => gv (by simp [go_sem, a.e 3 k31_3, a.e 5 k31_5, a.e 4 k31_4]) rfl,
  fun f s W i j k l m a => gdo rfl rfl (a.says (d := 56) rfl rfl (j 4 rfl)) fun hgd0 => gc (args := #[.agg #[.int .i64 tab, .slice (some ⟨bp, ox, none⟩) 4 cp, .int .i64 hh, .slice (some ⟨q1, o1, none⟩) 2 m1, .slice (some ⟨q0, o0, none⟩) 2 m0, .int .i64 slot, .bool false, .int .i64 off], .int .i64 1, .int .i64 hh, .func (.func 103) #[] #[.pointer (some ⟨(s1 0), 0, none⟩), .pointer (some ⟨(s1 2), 0, none⟩), .pointer (some ⟨(s1 1), 0, none⟩)]]) (by simp [go_sem, a.e 57 ((j 5 rfl).1 hgd0), a.e 61 ((j 9 rfl).1 hgd0), a.e 62 ((j 10 rfl).1 hgd0)]) (some_any (.int .i64 tab) (.slice (some ⟨bp, ox, none⟩) 4 cp) (.int .i64 hh) (.slice (some ⟨q1, o1, none⟩) 2 m1) (.slice (some ⟨q0, o0, none⟩) 2 m0) (.int .i64 slot) (.bool false) off 1 hh 103 #[.pointer (some ⟨(s1 0), 0, none⟩), .pointer (some ⟨(s1 2), 0, none⟩), .pointer (some ⟨(s1 1), 0, none⟩)] (fun n => isInOf n (foldsOf false) c (l3, h3)) W (by omega) (by omega) (by omega) (by omega) (by omega) (by omega) (fun _ _ => by simp [go_sem]) (fun x y1 y2 W' hb' => closes2_any l1 h1 l2 h2 l3 h3 l4 h4 l5 h5 wo hw x c tab hh slot off (.slice (some ⟨bp, ox, none⟩) 4 cp) (.slice (some ⟨q1, o1, none⟩) 2 m1) (.slice (some ⟨q0, o0, none⟩) 2 m0) false (s1 0) (s1 2) (s1 1) W' (by unfold loOf at y1; omega) (by unfold hiOf at y2; omega) hc1 hc2 (bwb (bwb b31_0 i) hb') (bwb (bwb b31_2 i) hb') (bwb (bwb b31_1 i) hb'))),
  fun f s W i j k l m a => opk (c := decide (c ≤ (1000 * (min 20 (slot + off))))) rfl rfl (fun hpk => by first | (simp [go_sem, hpk, a.e 56 (j 4 rfl)]; done) | (have hpk' := hpk; simp at hpk'; simp [go_sem, hpk', hpk, a.e 56 (j 4 rfl)])) (fun hpk => by first | (simp [go_sem, hpk, a.e 56 (j 4 rfl), a.e 63 ((j 11 rfl).1 hpk)]; done) | (have hpk' := hpk; simp at hpk'; simp [go_sem, hpk', hpk, a.e 56 (j 4 rfl), a.e 63 ((j 11 rfl).1 hpk)])),
  fun f s W i j k l m a => opm (a.v 64 (j 12 rfl)), trivial⟩ ?_
     intro f32 s32 W32 hB32 g32 hg32 z32
     have fB32 := hB32.f fB31
     have q30' := (q29'.below hB32.below)
     have k32_6 := kt hg32 6 (hB32.is 13)
     refine wp_ret ?_
     refine leave_one (N := 65) (v := .bool ((decide (c ≤ (1000 * (min 20 (slot + off))))) && (someB 1 hh off (fun n => isInOf n (foldsOf false) c (l3, h3))))) (.inr rfl) Tryz.results70 rfl k32_6 ?_
     have e : closesOf ⟨tab, [p0, p1, p2, p3], hh, [v2, v3], [v0, v1], slot, false⟩ ⟨(l1, h1), (l2, h2), (l3, h3), (l4, h4), (l5, h5), wo⟩ off c = ((false == wo) && (someB 1 p0 off (fun p => okP ⟨(l1, h1), (l2, h2), (l3, h3), (l4, h4), (l5, h5), wo⟩ c off p [(v0, v1), (v2, v3)] 0) && (someB 1 p1 off (fun p => okP ⟨(l1, h1), (l2, h2), (l3, h3), (l4, h4), (l5, h5), wo⟩ c off p [(v0, v1), (v2, v3)] 1) && (someB 1 p2 off (fun p => okP ⟨(l1, h1), (l2, h2), (l3, h3), (l4, h4), (l5, h5), wo⟩ c off p [(v0, v1), (v2, v3)] 2) && (someB 1 p3 off (fun p => okP ⟨(l1, h1), (l2, h2), (l3, h3), (l4, h4), (l5, h5), wo⟩ c off p [(v0, v1), (v2, v3)] 3) && (decide (c ≤ 1000 * min 20 (slot + off)) && someB 1 hh off fun n => isInOf n (foldsOf false) c (l3, h3))))))) := rfl
     have t0 := not_f hc18
     have t1 := not_f hc26
     have t2 := not_f hc34
     have t3 := not_f hc42
     exact ⟨ret_bool (by rw [e]; simp only [ho, t0, t1, t2, t3, Bool.true_and, Bool.false_and]), fB32⟩
end Go.Proofs.YthnediamopehfaaGreat
