/- Part of the proof: what the claim leans on. -/
import Derived.Test.YtcgccflcjejlhaaVBN
import Derived.Test.YtcgccflcjejlhaaVBO
import Derived.Test.YtcgccflcjejlhaaVBD
set_option maxHeartbeats 8000000
set_option maxRecDepth 100000
set_option linter.unusedSimpArgs false
set_option linter.unusedVariables false
namespace Go.Proofs.Ytcgccflcjejlhaa
open Go.RowKit
theorem labels_ex (br bq : Nat) (w : World) (hb : w.heap[br]? = some (.cells #[.int .i64 3100, .int .i64 3160, .int .i64 6100, .int .i64 6100] 43 (0, 0))) (hq : w.heap[bq]? = some (.cells #[.int .i64 0, .int .i64 2010, .int .i64 2012] 122 (0, 0))) :
  Calls Try.prog 36 #[.agg #[.int .i64 3, .int .i64 2, .int .i64 100, .slice (some ⟨br, 0, none⟩) 2 2], .slice (some ⟨bq, 0, none⟩) 1 1] w (fun e w' => ∃ a c, e = .returned (.tuple #[.slice a 2 c, .int .i64 0]) ∧ SpL w' a 2 rxL ∧ Below w.heap.size w w') := by
 refine calls_fr Try.func36 Try.ntmps36 rfl rfl fun g hg => ?_
 have k0 : g 0 = .agg #[.int .i64 3, .int .i64 2, .int .i64 100, .slice (some ⟨br, 0, none⟩) 2 2] := hg 0
 have k1 : g 1 = .slice (some ⟨bq, 0, none⟩) 1 1 := hg 1
 clear hg
 have fB0 : Below w.heap.size w w := Below.refl _ _
 have lt_br := ltb hb
 have lt_bq := ltb hq
 refine rw_ 3 [(2, 0), (4, 1), (5, 2)] [[], [], []] (rel [bx 0 #[.int .i64 3, .int .i64 2, .int .i64 100, .slice (some ⟨br, 0, none⟩) 2 2] 80, is (.slice none 0 0), iI 0])
  ⟨fun f s W j l m n p i => opb rfl rfl (by simp [go_sem, i.e 0 k0]),
  fun f s W j l m n p i => opv rfl rfl (by simp [go_sem]) rfl,
  fun f s W j l m n p i => opz, trivial⟩ ?_
 intro f1 s1 W1 hB1 g1 hg1 z1
 have b1_0 := hB1.b hb
 obtain ⟨r1_0, br1_0⟩ := hB1.is 0
 have lr1_0 := hB1.lr 0 br1_0
 have k1_2 := kt hg1 2 r1_0
 refine wp_seq_k fun K2 hK2 => ?_
 refine rw_ 3 [(13, 0), (14, 1), (6, 2)] [[], [0], [1]] (rel [is (.agg #[.int .i64 3, .int .i64 2, .int .i64 100, .slice (some ⟨br, 0, none⟩) 2 2]), iI 0, iI 0])
  ⟨fun f s W j l m n p i => opv rfl rfl (by simp [go_sem, i.e 2 k1_2, cb br1_0 j 0, cb br1_0 j 1, cb br1_0 j 2, cb br1_0 j 3]) rfl,
  fun f s W j l m n p i => opc rfl rfl (by simp [go_sem, i.e 13 (l 0 rfl)]) (ro_stand_yes 3 2 100 rxS (some ⟨br, 0, none⟩) 2 2 W rxUp (rxR (bwb b1_0 j)) rxIn (by decide)),
  fun f s W j l m n p i => opm (i.v 14 (l 1 rfl)), trivial⟩ ?_
 intro f2 s2 W2 hB2 g2 hg2 z2
 have k2_6 := kt hg2 6 (hB2.is 2)
 refine wp_block ?_
 refine rw_ 3 [(16, 0), (17, 1), (15, 2)] [[], [0], [1]] (rel [iI 0, iB false, iB false])
  ⟨fun f s W j l m n p i => opm (i.v 6 k2_6),
  fun f s W j l m n p i => opv rfl rfl (by simp [go_sem, i.e 16 (l 0 rfl)]) rfl,
  fun f s W j l m n p i => opm (i.v 17 (l 1 rfl)), trivial⟩ ?_
 intro f3 s3 W3 hB3 g3 hg3 z3
 have k3_1 := kt hg3 1 (kt hg2 1 (kt hg1 1 k1))
 have k3_15 := kt hg3 15 (hB3.is 2)
 refine wp_cond_false ((fr_eval rfl).trans k3_15) ?_
 refine rw_ 4 [(20, 0), (21, 1), (22, 2), (19, 3)] [[], [0], [1], [2]] (rel [is (.slice (some ⟨bq, 0, none⟩) 1 1), iI 1, iB false, iB false])
  ⟨fun f s W j l m n p i => opm (i.v 1 k3_1),
  fun f s W j l m n p i => opv rfl rfl (by simp [go_sem, i.e 20 (l 0 rfl)]) rfl,
  fun f s W j l m n p i => opv rfl rfl (by simp [go_sem, i.e 21 (l 1 rfl)]) rfl,
  fun f s W j l m n p i => opm (i.v 22 (l 2 rfl)), trivial⟩ ?_
 intro f4 s4 W4 hB4 g4 hg4 z4
 have b4_1 := hB4.b (hB3.b (hB2.b (hB1.b hq)))
 have k4_1 := kt hg4 1 k3_1
 have k4_19 := kt hg4 19 (hB4.is 3)
 refine wp_cond_false ((fr_eval rfl).trans k4_19) ?_
 refine rw_ 3 [(24, 0), (25, 1), (23, 2)] [[], [0], [1]] (rel [is (.slice (some ⟨bq, 0, none⟩) 1 1), iB false, iB false])
  ⟨fun f s W j l m n p i => opm (i.v 1 k4_1),
  fun f s W j l m n p i => opc rfl rfl (by simp [go_sem, i.e 24 (l 0 rfl)]) (lab_ct1 bq W (bwb b4_1 j)),
  fun f s W j l m n p i => opm (i.v 25 (l 1 rfl)), trivial⟩ ?_
 intro f5 s5 W5 hB5 g5 hg5 z5
 have b5_1 := hB5.b b4_1
 have b5_2 := hB5.b (hB4.b (hB3.b (hB2.b br1_0)))
 have k5_1 := kt hg5 1 k4_1
 have k5_2 := kt hg5 2 (kt hg4 2 (kt hg3 2 (kt hg2 2 k1_2)))
 have k5_23 := kt hg5 23 (hB5.is 2)
 refine wp_cond_false ((fr_eval rfl).trans k5_23) ?_
 refine rw_ 4 [(27, 0), (28, 1), (29, 2), (26, 3)] [[], [], [0, 1], [2]] (rel [is (.slice (some ⟨bq, 0, none⟩) 1 1), is (.func (.func 72) #[] #[.pointer (some ⟨(s1 0), 0, none⟩)]), iB false, iB false])
  ⟨fun f s W j l m n p i => opm (i.v 1 k5_1),
  fun f s W j l m n p i => opv rfl rfl (by simp [go_sem, i.e 2 k5_2]) rfl,
  fun f s W j l m n p i => opc rfl rfl (by simp [go_sem, i.e 27 (l 0 rfl), i.e 28 (l 1 rfl)]) (lab_ct2 (s1 0) br W (bwb b5_2 j) bq (bwb b5_1 j)),
  fun f s W j l m n p i => opm (i.v 29 (l 2 rfl)), trivial⟩ ?_
 intro f6 s6 W6 hB6 g6 hg6 z6
 have fB6 := hB6.f (hB5.f (hB4.f (hB3.f (hB2.f (hB1.f fB0)))))
 have b6_2 := hB6.b b5_2
 have k6_2 := kt hg6 2 k5_2
 have k6_26 := kt hg6 26 (hB6.is 3)
 refine wp_cond_false ((fr_eval rfl).trans k6_26) ?_
 refine wp_skip ?_
 refine ibn ?_
 refine hK2 _ _ ?_
 refine rx 6 [(30, 0), (31, 1), (32, 2), (33, 3), (34, 4), (7, 5)] [[], [0], [1], [2], [3], [4]] (rel [is (.pointer (some ⟨(s1 0), 3, none⟩)), is (.slice (some ⟨br, 0, none⟩) 2 2), iI 2, iI 3, ab fun v W => IsWeb W6.heap.size v W, ab fun v W => IsWeb W6.heap.size v W])
  ⟨is_k, is_k, is_k, is_k, ab_k fun v W W' hb h => (IsWeb.below h hb), ab_k fun v W W' hb h => (IsWeb.below h hb), trivial⟩
  ⟨fun f s W j l m n p i => opv rfl rfl (by simp [go_sem, i.e 2 k6_2]) rfl,
  fun f s W j l m n p i => opv rfl rfl (by simp [go_sem, i.e 30 (l 0 rfl), cb b6_2 j 3]) rfl,
  fun f s W j l m n p i => opv rfl rfl (by simp [go_sem, i.e 31 (l 1 rfl)]) rfl,
  fun f s W j l m n p i => opv rfl rfl (by simp [go_sem, i.e 32 (l 2 rfl), IntWalk.i64_in (3) (by omega)]) rfl,
  fun f s W j l m n p i => by have q := bwt fB6 j; exact opd rfl rfl (by simp [go_sem, i.e 33 (l 3 rfl)]) (newWeb3 W) ((fun e W' h => by obtain ⟨bw, ua, pa, ub, pb, uc, pc, e1, h1, h2⟩ := h; exact ⟨_, e1, h2, ⟨bw, ua, pa, ub, pb, uc, pc, rfl, ⟨h1.hb, h1.h0, h1.h1, h1.h2, by have := h1.lb; have := j.size; omega, h1.ne⟩⟩⟩)),
  fun f s W j l m n p i => opv (v := (f 4)) rfl rfl (by simp [go_sem, (i.at' 34 rfl : p.tmps[34]?.getD undef = f 4)] <;> rfl) (l 4 rfl), trivial⟩ ?_
 intro f7 s7 W7 hB7 g7 hg7 z7
 have b7_2 := hB7.b b6_2
 obtain ⟨bw247', ua248', pa249', ub250', pb251', uc252', pc253', r7_5, q254'⟩ := hB7.is 5
 have k7_2 := kt hg7 2 k6_2
 have wlb_ := q254'.lb
 have wne_ := q254'.ne
 have wb0_hb := q254'.hb
 have wl0_hb := ltb wb0_hb
 have wb0_h0 := q254'.h0
 have wl0_h0 := ltb wb0_h0
 have wb0_h1 := q254'.h1
 have wl0_h1 := ltb wb0_h1
 have wb0_h2 := q254'.h2
 have wl0_h2 := ltb wb0_h2
 refine wp_seq_k fun K13 hK13 => ?_
 refine rw_ 4 [(35, 0), (36, 1), (37, 2), (38, 3)] [[], [0], [1], []] (rel [is (.pointer (some ⟨(s1 0), 3, none⟩)), is (.slice (some ⟨br, 0, none⟩) 2 2), iI 2, iI 0])
  ⟨fun f s W j l m n p i => opv rfl rfl (by simp [go_sem, i.e 2 k7_2]) rfl,
  fun f s W j l m n p i => opv rfl rfl (by simp [go_sem, i.e 35 (l 0 rfl), cb b7_2 j 3]) rfl,
  fun f s W j l m n p i => opv rfl rfl (by simp [go_sem, i.e 36 (l 1 rfl)]) rfl,
  fun f s W j l m n p i => opz, trivial⟩ ?_
 intro f8 s8 W8 hB8 g8 hg8 z8
 have k8_37 := kt hg8 37 (hB8.is 2)
 have k8_38 := kt hg8 38 (hB8.is 3)
 refine wp_block ?_
 refine wp_loop_rounds 3 ?_
 rw [rounds_succ]
 refine rw_ 1 [(39, 0)] [[]] (rel [iB true])
  ⟨fun f s W j l m n p i => opv rfl rfl (by simp [go_sem, i.e 38 k8_38, i.e 37 k8_37]) rfl, trivial⟩ ?_
 intro f9 s9 W9 hB9 g9 hg9 z9
 have b9_0 := hB9.b (hB8.b (hB7.b (hB6.b (hB5.b (hB4.b (hB3.b (hB2.b b1_0)))))))
 have k9_36 := kt hg9 36 (kt hg8 36 (hB8.is 1))
 have k9_38 := kt hg9 38 k8_38
 have k9_39 := kt hg9 39 (hB9.is 0)
 refine wp_seq_k fun K16 hK16 => ?_
 refine wp_cond_true ((fr_eval rfl).trans k9_39) ?_
 refine wp_skip ?_
 refine hK16 _ _ ?_
 refine wp_seq_k fun K18 hK18 => ?_
 refine wp_block ?_
 refine wp_seq_k fun K19 hK19 => ?_
 refine ry 5 [(40, 0), (41, 1), (42, 2), (9, 3), (8, 4)] [[], [], [1], [], [0], [0, 1, 2, 3, 4]] (rel [iI 0, is (.pointer (some ⟨br, 0, none⟩)), is (.agg #[.int .i64 3100, .int .i64 3160]), bx 3 #[.int .i64 0, .int .i64 0] 43, iI 0])
  ⟨fun f s W j l m n p i => opm (i.v 38 k9_38),
  fun f s W j l m n p i => opv rfl rfl (by simp [go_sem, i.e 36 k9_36, i.e 38 k9_38]) rfl,
  fun f s W j l m n p i => opv rfl rfl (by simp [go_sem, i.e 41 (l 1 rfl), cb b9_0 j 0, cb b9_0 j 1]) rfl,
  fun f s W j l m n p i => opb rfl rfl (by simp [go_sem]),
  fun f s W j l m n p i => opm (i.v 40 (l 0 rfl)), trivial⟩ ?_
 intro f10 s10 W10 hB10 g10 hg10 z10
 have fB10 := hB10.f (hB9.f (hB8.f (hB7.f fB6)))
 have b10_0 := hB10.b b9_0
 have b10_1 := hB10.b (hB9.b (hB8.b (hB7.b (hB6.b b5_1))))
 have b10_2 := hB10.b (hB9.b (hB8.b b7_2))
 have b10_3 := hB10.b (hB9.b (hB8.b wb0_hb))
 have b10_4 := hB10.b (hB9.b (hB8.b wb0_h0))
 have b10_5 := hB10.b (hB9.b (hB8.b wb0_h1))
 have b10_6 := hB10.b (hB9.b (hB8.b wb0_h2))
 obtain ⟨r10_3, br10_3⟩ := hB10.is 3
 have lr10_3 := hB10.lr 3 br10_3
 have k10_2 := kt hg10 2 (kt hg9 2 (kt hg8 2 k7_2))
 have k10_7 := kt hg10 7 (kt hg9 7 (kt hg8 7 (kt hg7 7 r7_5)))
 have k10_42 := kt hg10 42 (hB10.is 2)
 have k10_9 := kt hg10 9 r10_3
 have k10_8 := kt hg10 8 (hB10.is 4)
 obtain ⟨W11, hW11⟩ : ∃ W', W' = W10.setRow (s10 3) #[.int .i64 3100, .int .i64 3160] := ⟨_, rfl⟩
 refine tsk (o := _) rfl ⟨rfl, rfl⟩ (run_seg hW11 (fr_ev k10_9) (fr_ev k10_42) br10_3 rfl rfl rfl rfl) ?_
 obtain ⟨fB11, nb11, ot11, z11⟩ := sgf hW11 fB10 br10_3 (by omega)
 clear hW11
 have b11_0 := ot11 _ _ (by omega) b10_0
 have b11_1 := ot11 _ _ (by omega) b10_1
 have b11_2 := ot11 _ _ (by omega) b10_2
 have b11_3 := ot11 _ _ (by omega) b10_3
 have b11_4 := ot11 _ _ (by omega) b10_4
 have b11_5 := ot11 _ _ (by omega) b10_5
 have b11_6 := ot11 _ _ (by omega) b10_6
 refine wpe ?_
 refine hK19 _ _ ?_
 refine ry 15 [(43, 0), (44, 1), (45, 2), (46, 3), (47, 4), (48, 5), (49, 6), (50, 7), (51, 8), (52, 9), (53, 10), (54, 11), (55, 12), (56, 13), (57, 14), (58, 15)] [[], [], [], [2], [], [4], [], [6], [4, 5, 6, 7], [], [9], [], [11], [9, 10, 11, 12], [4, 5, 6, 7, 8, 9, 10, 11, 12, 13], [0, 1, 2, 3, 4, 5, 6, 7, 8, 9, 10, 11, 12, 13, 14]] (rel [is (.slice (some ⟨bw247', 0, none⟩) 3 3), iI 0, iI 0, iI 1, is (.pointer (some ⟨(s10 3), 0, none⟩)), iI 3100, is (.pointer (some ⟨(s1 0), 2, none⟩)), iI 100, iI 3000, is (.pointer (some ⟨(s10 3), 1, none⟩)), iI 3160, is (.pointer (some ⟨(s1 0), 2, none⟩)), iI 100, iI 3060, is (.agg #[.int .i64 3000, .int .i64 3060])])
  ⟨fun f s W j l m n p i => opm (i.v 7 k10_7),
  fun f s W j l m n p i => opm (i.v 8 k10_8),
  fun f s W j l m n p i => opm (i.v 8 k10_8),
  fun f s W j l m n p i => opv rfl rfl (by simp [go_sem, i.e 45 (l 2 rfl), IntWalk.i64_in (1) (by omega)]) rfl,
  fun f s W j l m n p i => opv rfl rfl (by simp [go_sem, i.e 9 k10_9]) rfl,
  fun f s W j l m n p i => opv rfl rfl (by simp [go_sem, i.e 47 (l 4 rfl), cb nb11 j 0]) rfl,
  fun f s W j l m n p i => opv rfl rfl (by simp [go_sem, i.e 2 k10_2]) rfl,
  fun f s W j l m n p i => opv rfl rfl (by simp [go_sem, i.e 49 (l 6 rfl), cb b11_2 j 2]) rfl,
  fun f s W j l m n p i => opv rfl rfl (by simp [go_sem, i.e 48 (l 5 rfl), i.e 50 (l 7 rfl), IntWalk.i64_in (3000) (by omega)]) rfl,
  fun f s W j l m n p i => opv rfl rfl (by simp [go_sem, i.e 9 k10_9]) rfl,
  fun f s W j l m n p i => opv rfl rfl (by simp [go_sem, i.e 52 (l 9 rfl), cb nb11 j 1]) rfl,
  fun f s W j l m n p i => opv rfl rfl (by simp [go_sem, i.e 2 k10_2]) rfl,
  fun f s W j l m n p i => opv rfl rfl (by simp [go_sem, i.e 54 (l 11 rfl), cb b11_2 j 2]) rfl,
  fun f s W j l m n p i => opv rfl rfl (by simp [go_sem, i.e 53 (l 10 rfl), i.e 55 (l 12 rfl), IntWalk.i64_in (3060) (by omega)]) rfl,
  fun f s W j l m n p i => opv rfl rfl (by simp [go_sem, i.e 51 (l 8 rfl), i.e 56 (l 13 rfl)]) rfl, trivial⟩ ?_
 intro f12 s12 W12 hB12 g12 hg12 z12
 have fB12 := hB12.f fB11
 have b12_0 := hB12.b b11_0
 have b12_1 := hB12.b b11_1
 have b12_2 := hB12.b b11_2
 have b12_3 := hB12.b b11_3
 have b12_4 := hB12.b b11_4
 have b12_5 := hB12.b b11_5
 have b12_6 := hB12.b b11_6
 have k12_43 := kt hg12 43 (hB12.is 0)
 have k12_44 := kt hg12 44 (hB12.is 1)
 have k12_46 := kt hg12 46 (hB12.is 3)
 have k12_57 := kt hg12 57 (hB12.is 14)
 refine tail_call (o := _) (d := 58) rfl rfl rfl (by simp [go_sem, frv 114 k12_43, frv 114 k12_44, frv 114 k12_46, frv 114 k12_57]) (web_knows_01 3000 3060 0 1099511627776 1099511627776 1099511627776 0 1099511627776 1099511627776 1099511627776 0 bw247' ua248' pa249' ub250' pb251' uc252' pc253' 3 w W12 fB12 ⟨b12_3, b12_4, b12_5, b12_6, by omega, by omega⟩ (by decide)) ?_ (fun _ h => nomatch h.1) (fun _ _ h => nomatch h.1)
 rintro v_ W13 ⟨rv13, wr13, kx13, fB13⟩
 obtain rfl := Ending.returned.inj rv13
 have kz13 := kx13.size
 rw [show min (1099511627776 : Int) 3060 = 3060 from by decide, show min (1099511627776 : Int) (-3000) = -3000 from by decide] at wr13
 have bk13_0 := kx13.block _ _ (by unfold WebS; omega) b12_0
 have bk13_1 := kx13.block _ _ (by unfold WebS; omega) b12_1
 have bk13_2 := kx13.block _ _ (by unfold WebS; omega) b12_2
 have wb13_hb := wr13.hb
 have wl13_hb := ltb wb13_hb
 have wb13_h0 := wr13.h0
 have wl13_h0 := ltb wb13_h0
 have wb13_h1 := wr13.h1
 have wl13_h1 := ltb wb13_h1
 have wb13_h2 := wr13.h2
 have wl13_h2 := ltb wb13_h2
 generalize hg13 : upd g12 58 (.tuple #[]) = g13
 have k13_38 := ku hg13 38 (kt hg12 38 (kt hg10 38 k9_38))
 refine wpe ?_
 refine ibn ?_
 refine hK18 _ _ ?_
 refine ry 2 [(59, 0), (38, 1)] [[], [0]] (rel [iI 1, iI 1])
  ⟨fun f s W j l m n p i => opv rfl rfl (by simp [go_sem, i.e 38 ((n 1 38 rfl rfl).trans k13_38), IntWalk.i64_in (1) (by omega)]) rfl,
  fun f s W j l m n p i => opm (i.v 59 (l 0 rfl)), trivial⟩ ?_
 intro f14 s14 W14 hB14 g14 hg14 z14
 refine wpe ?_
 have k14_37 := kt hg14 37 (ku hg13 37 (kt hg12 37 (kt hg10 37 (kt hg9 37 k8_37))))
 have k14_38 := kt hg14 38 (hB14.is 1)
 refine then_normal ?_
 rw [rounds_succ]
 refine rw_ 1 [(39, 0)] [[]] (rel [iB true])
  ⟨fun f s W j l m n p i => opv rfl rfl (by simp [go_sem, i.e 38 k14_38, i.e 37 k14_37]) rfl, trivial⟩ ?_
 intro f15 s15 W15 hB15 g15 hg15 z15
 have b15_0 := hB15.b (hB14.b bk13_0)
 have k15_36 := kt hg15 36 (kt hg14 36 (ku hg13 36 (kt hg12 36 (kt hg10 36 k9_36))))
 have k15_38 := kt hg15 38 k14_38
 have k15_39 := kt hg15 39 (hB15.is 0)
 refine wp_seq_k fun K21 hK21 => ?_
 refine wp_cond_true ((fr_eval rfl).trans k15_39) ?_
 refine wp_skip ?_
 refine hK21 _ _ ?_
 refine wp_seq_k fun K23 hK23 => ?_
 refine wp_block ?_
 refine wp_seq_k fun K24 hK24 => ?_
 refine ry 5 [(40, 0), (41, 1), (42, 2), (9, 3), (8, 4)] [[], [], [1], [], [0], [0, 1, 2, 3, 4]] (rel [iI 1, is (.pointer (some ⟨br, 2, none⟩)), is (.agg #[.int .i64 6100, .int .i64 6100]), bx 3 #[.int .i64 0, .int .i64 0] 43, iI 1])
  ⟨fun f s W j l m n p i => opm (i.v 38 k15_38),
  fun f s W j l m n p i => opv rfl rfl (by simp [go_sem, i.e 36 k15_36, i.e 38 k15_38]) rfl,
  fun f s W j l m n p i => opv rfl rfl (by simp [go_sem, i.e 41 (l 1 rfl), cb b15_0 j 2, cb b15_0 j 3]) rfl,
  fun f s W j l m n p i => opb rfl rfl (by simp [go_sem]),
  fun f s W j l m n p i => opm (i.v 40 (l 0 rfl)), trivial⟩ ?_
 intro f16 s16 W16 hB16 g16 hg16 z16
 have fB16 := hB16.f (hB15.f (hB14.f fB13))
 have b16_1 := hB16.b (hB15.b (hB14.b bk13_1))
 have b16_2 := hB16.b (hB15.b (hB14.b bk13_2))
 have b16_4 := hB16.b (hB15.b (hB14.b wb13_hb))
 have b16_5 := hB16.b (hB15.b (hB14.b wb13_h0))
 have b16_6 := hB16.b (hB15.b (hB14.b wb13_h1))
 have b16_7 := hB16.b (hB15.b (hB14.b wb13_h2))
 obtain ⟨r16_3, br16_3⟩ := hB16.is 3
 have lr16_3 := hB16.lr 3 br16_3
 have k16_2 := kt hg16 2 (kt hg15 2 (kt hg14 2 (ku hg13 2 (kt hg12 2 k10_2))))
 have k16_7 := kt hg16 7 (kt hg15 7 (kt hg14 7 (ku hg13 7 (kt hg12 7 k10_7))))
 have k16_42 := kt hg16 42 (hB16.is 2)
 have k16_9 := kt hg16 9 r16_3
 have k16_8 := kt hg16 8 (hB16.is 4)
 obtain ⟨W17, hW17⟩ : ∃ W', W' = W16.setRow (s16 3) #[.int .i64 6100, .int .i64 6100] := ⟨_, rfl⟩
 refine tsk (o := _) rfl ⟨rfl, rfl⟩ (run_seg hW17 (fr_ev k16_9) (fr_ev k16_42) br16_3 rfl rfl rfl rfl) ?_
 obtain ⟨fB17, nb17, ot17, z17⟩ := sgf hW17 fB16 br16_3 (by omega)
 clear hW17
 have b17_1 := ot17 _ _ (by omega) b16_1
 have b17_2 := ot17 _ _ (by omega) b16_2
 have b17_4 := ot17 _ _ (by omega) b16_4
 have b17_5 := ot17 _ _ (by omega) b16_5
 have b17_6 := ot17 _ _ (by omega) b16_6
 have b17_7 := ot17 _ _ (by omega) b16_7
 refine wpe ?_
 refine hK24 _ _ ?_
 refine ry 15 [(43, 0), (44, 1), (45, 2), (46, 3), (47, 4), (48, 5), (49, 6), (50, 7), (51, 8), (52, 9), (53, 10), (54, 11), (55, 12), (56, 13), (57, 14), (58, 15)] [[], [], [], [2], [], [4], [], [6], [4, 5, 6, 7], [], [9], [], [11], [9, 10, 11, 12], [4, 5, 6, 7, 8, 9, 10, 11, 12, 13], [0, 1, 2, 3, 4, 5, 6, 7, 8, 9, 10, 11, 12, 13, 14]] (rel [is (.slice (some ⟨bw247', 0, none⟩) 3 3), iI 1, iI 1, iI 2, is (.pointer (some ⟨(s16 3), 0, none⟩)), iI 6100, is (.pointer (some ⟨(s1 0), 2, none⟩)), iI 100, iI 6000, is (.pointer (some ⟨(s16 3), 1, none⟩)), iI 6100, is (.pointer (some ⟨(s1 0), 2, none⟩)), iI 100, iI 6000, is (.agg #[.int .i64 6000, .int .i64 6000])])
  ⟨fun f s W j l m n p i => opm (i.v 7 k16_7),
  fun f s W j l m n p i => opm (i.v 8 k16_8),
  fun f s W j l m n p i => opm (i.v 8 k16_8),
  fun f s W j l m n p i => opv rfl rfl (by simp [go_sem, i.e 45 (l 2 rfl), IntWalk.i64_in (2) (by omega)]) rfl,
  fun f s W j l m n p i => opv rfl rfl (by simp [go_sem, i.e 9 k16_9]) rfl,
  fun f s W j l m n p i => opv rfl rfl (by simp [go_sem, i.e 47 (l 4 rfl), cb nb17 j 0]) rfl,
  fun f s W j l m n p i => opv rfl rfl (by simp [go_sem, i.e 2 k16_2]) rfl,
  fun f s W j l m n p i => opv rfl rfl (by simp [go_sem, i.e 49 (l 6 rfl), cb b17_2 j 2]) rfl,
  fun f s W j l m n p i => opv rfl rfl (by simp [go_sem, i.e 48 (l 5 rfl), i.e 50 (l 7 rfl), IntWalk.i64_in (6000) (by omega)]) rfl,
  fun f s W j l m n p i => opv rfl rfl (by simp [go_sem, i.e 9 k16_9]) rfl,
  fun f s W j l m n p i => opv rfl rfl (by simp [go_sem, i.e 52 (l 9 rfl), cb nb17 j 1]) rfl,
  fun f s W j l m n p i => opv rfl rfl (by simp [go_sem, i.e 2 k16_2]) rfl,
  fun f s W j l m n p i => opv rfl rfl (by simp [go_sem, i.e 54 (l 11 rfl), cb b17_2 j 2]) rfl,
  fun f s W j l m n p i => opv rfl rfl (by simp [go_sem, i.e 53 (l 10 rfl), i.e 55 (l 12 rfl), IntWalk.i64_in (6000) (by omega)]) rfl,
  fun f s W j l m n p i => opv rfl rfl (by simp [go_sem, i.e 51 (l 8 rfl), i.e 56 (l 13 rfl)]) rfl, trivial⟩ ?_
 intro f18 s18 W18 hB18 g18 hg18 z18
 have fB18 := hB18.f fB17
 have b18_1 := hB18.b b17_1
 have b18_2 := hB18.b b17_2
 have b18_4 := hB18.b b17_4
 have b18_5 := hB18.b b17_5
 have b18_6 := hB18.b b17_6
 have b18_7 := hB18.b b17_7
 have k18_43 := kt hg18 43 (hB18.is 0)
 have k18_44 := kt hg18 44 (hB18.is 1)
 have k18_46 := kt hg18 46 (hB18.is 3)
 have k18_57 := kt hg18 57 (hB18.is 14)
 refine tail_call (o := _) (d := 58) rfl rfl rfl (by simp [go_sem, frv 114 k18_43, frv 114 k18_44, frv 114 k18_46, frv 114 k18_57]) (web_knows_12 6000 6000 0 3060 1099511627776 (-3000) 0 1099511627776 1099511627776 1099511627776 0 bw247' ua248' pa249' ub250' pb251' uc252' pc253' 3 w W18 fB18 ⟨b18_4, b18_5, b18_6, b18_7, by omega, by omega⟩ (by decide)) ?_ (fun _ h => nomatch h.1) (fun _ _ h => nomatch h.1)
 rintro v_ W19 ⟨rv19, wr19, kx19, fB19⟩
 obtain rfl := Ending.returned.inj rv19
 have kz19 := kx19.size
 rw [show min (1099511627776 : Int) 6000 = 6000 from by decide, show min (1099511627776 : Int) (-6000) = -6000 from by decide] at wr19
 have bk19_1 := kx19.block _ _ (by unfold WebS; omega) b18_1
 have bk19_2 := kx19.block _ _ (by unfold WebS; omega) b18_2
 have wb19_hb := wr19.hb
 have wl19_hb := ltb wb19_hb
 have wb19_h0 := wr19.h0
 have wl19_h0 := ltb wb19_h0
 have wb19_h1 := wr19.h1
 have wl19_h1 := ltb wb19_h1
 have wb19_h2 := wr19.h2
 have wl19_h2 := ltb wb19_h2
 generalize hg19 : upd g18 58 (.tuple #[]) = g19
 have k19_38 := ku hg19 38 (kt hg18 38 (kt hg16 38 k15_38))
 refine wpe ?_
 refine ibn ?_
 refine hK23 _ _ ?_
 refine ry 2 [(59, 0), (38, 1)] [[], [0]] (rel [iI 2, iI 2])
  ⟨fun f s W j l m n p i => opv rfl rfl (by simp [go_sem, i.e 38 ((n 1 38 rfl rfl).trans k19_38), IntWalk.i64_in (2) (by omega)]) rfl,
  fun f s W j l m n p i => opm (i.v 59 (l 0 rfl)), trivial⟩ ?_
 intro f20 s20 W20 hB20 g20 hg20 z20
 refine wpe ?_
 have k20_37 := kt hg20 37 (ku hg19 37 (kt hg18 37 (kt hg16 37 (kt hg15 37 k14_37))))
 have k20_38 := kt hg20 38 (hB20.is 1)
 refine then_normal ?_
 rw [rounds_succ]
 refine rw_ 1 [(39, 0)] [[]] (rel [iB false])
  ⟨fun f s W j l m n p i => opv rfl rfl (by simp [go_sem, i.e 38 k20_38, i.e 37 k20_37]) rfl, trivial⟩ ?_
 intro f21 s21 W21 hB21 g21 hg21 z21
 have k21_1 := kt hg21 1 (kt hg20 1 (ku hg19 1 (kt hg18 1 (kt hg16 1 (kt hg15 1 (kt hg14 1 (ku hg13 1 (kt hg12 1 (kt hg10 1 (kt hg9 1 (kt hg8 1 (kt hg7 1 (kt hg6 1 k5_1)))))))))))))
 have k21_39 := kt hg21 39 (hB21.is 0)
 refine wp_seq_k fun K26 hK26 => ?_
 refine wp_cond_false ((fr_eval rfl).trans k21_39) ?_
 refine wp_exit ?_
 refine then_exit ?_
 refine then_exit ?_
 refine inBlock_at ?_
 refine hK13 _ _ ?_
 refine wp_seq_k fun K28 hK28 => ?_
 refine rw_ 3 [(60, 0), (61, 1), (62, 2)] [[], [0], []] (rel [is (.slice (some ⟨bq, 0, none⟩) 1 1), iI 1, iI 0])
  ⟨fun f s W j l m n p i => opm (i.v 1 k21_1),
  fun f s W j l m n p i => opv rfl rfl (by simp [go_sem, i.e 60 (l 0 rfl)]) rfl,
  fun f s W j l m n p i => opz, trivial⟩ ?_
 intro f22 s22 W22 hB22 g22 hg22 z22
 have k22_61 := kt hg22 61 (hB22.is 1)
 have k22_62 := kt hg22 62 (hB22.is 2)
 refine wp_block ?_
 refine wp_loop_rounds 2 ?_
 rw [rounds_succ]
 refine rw_ 1 [(63, 0)] [[]] (rel [iB true])
  ⟨fun f s W j l m n p i => opv rfl rfl (by simp [go_sem, i.e 62 k22_62, i.e 61 k22_61]) rfl, trivial⟩ ?_
 intro f23 s23 W23 hB23 g23 hg23 z23
 have b23_1 := hB23.b (hB22.b (hB21.b (hB20.b bk19_1)))
 have k23_60 := kt hg23 60 (kt hg22 60 (hB22.is 0))
 have k23_62 := kt hg23 62 k22_62
 have k23_63 := kt hg23 63 (hB23.is 0)
 refine wp_seq_k fun K31 hK31 => ?_
 refine wp_cond_true ((fr_eval rfl).trans k23_63) ?_
 refine wp_skip ?_
 refine hK31 _ _ ?_
 refine wp_seq_k fun K33 hK33 => ?_
 refine wp_block ?_
 refine wp_seq_k fun K34 hK34 => ?_
 refine ry 3 [(64, 0), (65, 1), (11, 2)] [[], [0], [], [0, 1, 2]] (rel [is (.pointer (some ⟨bq, 0, none⟩)), is (.agg #[.int .i64 0, .int .i64 2010, .int .i64 2012]), bx 2 #[.int .i64 0, .int .i64 0, .int .i64 0] 122])
  ⟨fun f s W j l m n p i => opv rfl rfl (by simp [go_sem, i.e 60 k23_60, i.e 62 k23_62]) rfl,
  fun f s W j l m n p i => opv rfl rfl (by simp [go_sem, i.e 64 (l 0 rfl), cb b23_1 j 0, cb b23_1 j 1, cb b23_1 j 2]) rfl,
  fun f s W j l m n p i => opb rfl rfl (by simp [go_sem]), trivial⟩ ?_
 intro f24 s24 W24 hB24 g24 hg24 z24
 have fB24 := hB24.f (hB23.f (hB22.f (hB21.f (hB20.f fB19))))
 have b24_2 := hB24.b (hB23.b (hB22.b (hB21.b (hB20.b bk19_2))))
 have b24_5 := hB24.b (hB23.b (hB22.b (hB21.b (hB20.b wb19_hb))))
 have b24_6 := hB24.b (hB23.b (hB22.b (hB21.b (hB20.b wb19_h0))))
 have b24_7 := hB24.b (hB23.b (hB22.b (hB21.b (hB20.b wb19_h1))))
 have b24_8 := hB24.b (hB23.b (hB22.b (hB21.b (hB20.b wb19_h2))))
 obtain ⟨r24_2, br24_2⟩ := hB24.is 2
 have lr24_2 := hB24.lr 2 br24_2
 have k24_2 := kt hg24 2 (kt hg23 2 (kt hg22 2 (kt hg21 2 (kt hg20 2 (ku hg19 2 (kt hg18 2 k16_2))))))
 have k24_7 := kt hg24 7 (kt hg23 7 (kt hg22 7 (kt hg21 7 (kt hg20 7 (ku hg19 7 (kt hg18 7 k16_7))))))
 have k24_65 := kt hg24 65 (hB24.is 1)
 have k24_11 := kt hg24 11 r24_2
 obtain ⟨W25, hW25⟩ : ∃ W', W' = W24.setRow (s24 2) #[.int .i64 0, .int .i64 2010, .int .i64 2012] := ⟨_, rfl⟩
 refine tsk (o := _) rfl ⟨rfl, rfl⟩ (run_seg hW25 (fr_ev k24_11) (fr_ev k24_65) br24_2 rfl rfl rfl rfl) ?_
 obtain ⟨fB25, nb25, ot25, z25⟩ := sgf hW25 fB24 br24_2 (by omega)
 clear hW25
 have b25_2 := ot25 _ _ (by omega) b24_2
 have b25_5 := ot25 _ _ (by omega) b24_5
 have b25_6 := ot25 _ _ (by omega) b24_6
 have b25_7 := ot25 _ _ (by omega) b24_7
 have b25_8 := ot25 _ _ (by omega) b24_8
 refine wpe ?_
 refine hK34 _ _ ?_
 refine ry 9 [(66, 0), (67, 1), (68, 2), (69, 3), (70, 4), (71, 5), (72, 6), (73, 7), (74, 8), (75, 9)] [[], [], [1], [1, 2], [], [4], [], [6], [4, 5, 6, 7], [0, 1, 2, 3, 4, 5, 6, 7, 8]] (rel [is (.slice (some ⟨bw247', 0, none⟩) 3 3), is (.pointer (some ⟨(s24 2), 0, none⟩)), iI 0, iI 1, is (.agg #[.int .i64 3, .int .i64 2, .int .i64 100, .slice (some ⟨br, 0, none⟩) 2 2]), is (.agg #[.int .i64 3, .int .i64 2, .int .i64 100, .slice (some ⟨br, 0, none⟩) 2 2]), is (.pointer (some ⟨(s24 2), 1, none⟩)), is (.agg #[.int .i64 2010, .int .i64 2012]), is (.agg #[.int .i64 3015, .int .i64 3019])])
  ⟨fun f s W j l m n p i => opm (i.v 7 k24_7),
  fun f s W j l m n p i => opv rfl rfl (by simp [go_sem, i.e 11 k24_11]) rfl,
  fun f s W j l m n p i => opv rfl rfl (by simp [go_sem, i.e 67 (l 1 rfl), cb nb25 j 0]) rfl,
  fun f s W j l m n p i => opv rfl rfl (by simp [go_sem, i.e 68 (l 2 rfl), IntWalk.i64_in (1) (by omega)]) rfl,
  fun f s W j l m n p i => opv rfl rfl (by simp [go_sem, i.e 2 k24_2, cb b25_2 j 0, cb b25_2 j 1, cb b25_2 j 2, cb b25_2 j 3]) rfl,
  fun f s W j l m n p i => opv rfl rfl (by simp [go_sem, i.e 70 (l 4 rfl)]) rfl,
  fun f s W j l m n p i => opv rfl rfl (by simp [go_sem, i.e 11 k24_11]) rfl,
  fun f s W j l m n p i => opv rfl rfl (by simp [go_sem, i.e 72 (l 6 rfl), cb nb25 j 1, cb nb25 j 2]) rfl,
  fun f s W j l m n p i => opc rfl rfl (by simp [go_sem, i.e 71 (l 5 rfl), i.e 73 (l 7 rfl)]) (seen_ex br W), trivial⟩ ?_
 intro f26 s26 W26 hB26 g26 hg26 z26
 have fB26 := hB26.f fB25
 have b26_2 := hB26.b b25_2
 have b26_5 := hB26.b b25_5
 have b26_6 := hB26.b b25_6
 have b26_7 := hB26.b b25_7
 have b26_8 := hB26.b b25_8
 have k26_66 := kt hg26 66 (hB26.is 0)
 have k26_69 := kt hg26 69 (hB26.is 3)
 have k26_74 := kt hg26 74 (hB26.is 8)
 refine tail_call (o := _) (d := 75) rfl rfl rfl (by simp [go_sem, frv 114 k26_66, frv 114 k26_69, frv 114 k26_74]) (web_knows_01 3015 3019 0 3060 1099511627776 (-3000) 0 6000 1099511627776 (-6000) 0 bw247' ua248' pa249' ub250' pb251' uc252' pc253' 3 w W26 fB26 ⟨b26_5, b26_6, b26_7, b26_8, by omega, by omega⟩ (by decide)) ?_ (fun _ h => nomatch h.1) (fun _ _ h => nomatch h.1)
 rintro v_ W27 ⟨rv27, wr27, kx27, fB27⟩
 obtain rfl := Ending.returned.inj rv27
 have kz27 := kx27.size
 rw [show min (3060 : Int) 3019 = 3019 from by decide, show min (-3000 : Int) (-3015) = -3015 from by decide] at wr27
 have bk27_2 := kx27.block _ _ (by unfold WebS; omega) b26_2
 have wb27_hb := wr27.hb
 have wl27_hb := ltb wb27_hb
 have wb27_h0 := wr27.h0
 have wl27_h0 := ltb wb27_h0
 have wb27_h1 := wr27.h1
 have wl27_h1 := ltb wb27_h1
 have wb27_h2 := wr27.h2
 have wl27_h2 := ltb wb27_h2
 generalize hg27 : upd g26 75 (.tuple #[]) = g27
 have k27_62 := ku hg27 62 (kt hg26 62 (kt hg24 62 k23_62))
 refine wpe ?_
 refine ibn ?_
 refine hK33 _ _ ?_
 refine ry 2 [(76, 0), (62, 1)] [[], [0]] (rel [iI 1, iI 1])
  ⟨fun f s W j l m n p i => opv rfl rfl (by simp [go_sem, i.e 62 ((n 1 62 rfl rfl).trans k27_62), IntWalk.i64_in (1) (by omega)]) rfl,
  fun f s W j l m n p i => opm (i.v 76 (l 0 rfl)), trivial⟩ ?_
 intro f28 s28 W28 hB28 g28 hg28 z28
 refine wpe ?_
 have k28_61 := kt hg28 61 (ku hg27 61 (kt hg26 61 (kt hg24 61 (kt hg23 61 k22_61))))
 have k28_62 := kt hg28 62 (hB28.is 1)
 refine then_normal ?_
 rw [rounds_succ]
 refine rw_ 1 [(63, 0)] [[]] (rel [iB false])
  ⟨fun f s W j l m n p i => opv rfl rfl (by simp [go_sem, i.e 62 k28_62, i.e 61 k28_61]) rfl, trivial⟩ ?_
 intro f29 s29 W29 hB29 g29 hg29 z29
 have k29_7 := kt hg29 7 (kt hg28 7 (ku hg27 7 (kt hg26 7 k24_7)))
 have k29_63 := kt hg29 63 (hB29.is 0)
 refine wp_seq_k fun K36 hK36 => ?_
 refine wp_cond_false ((fr_eval rfl).trans k29_63) ?_
 refine wp_exit ?_
 refine then_exit ?_
 refine then_exit ?_
 refine inBlock_at ?_
 refine hK28 _ _ ?_
 refine wp_seq_k fun K38 hK38 => ?_
 refine wp_seq_k fun K39 hK39 => ?_
 refine ry 1 [(77, 0), (78, 1), (79, 2)] [[], [0], [0, 1]] (rel [is (.slice (some ⟨bw247', 0, none⟩) 3 3)])
  ⟨fun f s W j l m n p i => opm (i.v 7 k29_7), trivial⟩ ?_
 intro f30 s30 W30 hB30 g30 hg30 z30
 have fB30 := hB30.f (hB29.f (hB28.f fB27))
 have b30_2 := hB30.b (hB29.b (hB28.b bk27_2))
 have b30_6 := hB30.b (hB29.b (hB28.b wb27_hb))
 have b30_7 := hB30.b (hB29.b (hB28.b wb27_h0))
 have b30_8 := hB30.b (hB29.b (hB28.b wb27_h1))
 have b30_9 := hB30.b (hB29.b (hB28.b wb27_h2))
 have k30_77 := kt hg30 77 (hB30.is 0)
 refine tail_call (o := _) (d := 78) rfl rfl rfl (by simp [go_sem, frv 114 k30_77]) (web_close bw247' ua248' pa249' ub250' pb251' uc252' pc253' 3 w W30 fB30 ⟨b30_6, b30_7, b30_8, b30_9, by omega, by omega⟩) ?_ (fun _ h => nomatch h.1) (fun _ _ h => nomatch h.1)
 rintro v_ W31 ⟨rv31, wr31, kx31, fB31⟩
 obtain rfl := Ending.returned.inj rv31
 have kz31 := kx31.size
 have bk31_2 := kx31.block _ _ (by unfold WebS; omega) b30_2
 have wb31_hb := wr31.hb
 have wl31_hb := ltb wb31_hb
 have wb31_h0 := wr31.h0
 have wl31_h0 := ltb wb31_h0
 have wb31_h1 := wr31.h1
 have wl31_h1 := ltb wb31_h1
 have wb31_h2 := wr31.h2
 have wl31_h2 := ltb wb31_h2
 generalize hg31 : upd g30 78 (.bool true) = g31
 have k31_78 := kt hg31 78 (upd_same _ _ _)
 refine tail_value (o := _) rfl rfl rfl (v := .bool false) (by simp [go_sem, frv 114 k31_78]) ?_
 generalize hg32 : upd g31 79 (.bool false) = g32
 have k32_2 := ku hg32 2 (ku hg31 2 (kt hg30 2 (kt hg29 2 (kt hg28 2 (ku hg27 2 (kt hg26 2 k24_2))))))
 have k32_79 := kt hg32 79 (upd_same _ _ _)
 refine wpe ?_
 refine hK39 _ _ ?_
 refine wp_cond_false ((fr_eval rfl).trans k32_79) ?_
 refine wp_skip ?_
 refine hK38 _ _ ?_
 refine wp_seq_k fun K41 hK41 => ?_
 refine rw_ 4 [(80, 0), (81, 1), (82, 2), (83, 3)] [[], [0], [1], []] (rel [is (.pointer (some ⟨(s1 0), 3, none⟩)), is (.slice (some ⟨br, 0, none⟩) 2 2), iI 2, iI 0])
  ⟨fun f s W j l m n p i => opv rfl rfl (by simp [go_sem, i.e 2 k32_2]) rfl,
  fun f s W j l m n p i => opv rfl rfl (by simp [go_sem, i.e 80 (l 0 rfl), cb bk31_2 j 3]) rfl,
  fun f s W j l m n p i => opv rfl rfl (by simp [go_sem, i.e 81 (l 1 rfl)]) rfl,
  fun f s W j l m n p i => opz, trivial⟩ ?_
 intro f33 s33 W33 hB33 g33 hg33 z33
 have k33_82 := kt hg33 82 (hB33.is 2)
 have k33_83 := kt hg33 83 (hB33.is 3)
 have on0 : OwnN 43 2 w.heap.size 0 (rowC (spC rxL) 0) none 0 W33 := ownN_nil
 refine wp_block ?_
 refine wp_loop_rounds 3 ?_
 rw [rounds_succ]
 refine rw_ 1 [(84, 0)] [[]] (rel [iB true])
  ⟨fun f s W j l m n p i => opv rfl rfl (by simp [go_sem, i.e 83 k33_83, i.e 82 k33_82]) rfl, trivial⟩ ?_
 intro f34 s34 W34 hB34 g34 hg34 z34
 have q255' := (on0.below hB34.below)
 have k34_83 := kt hg34 83 k33_83
 have k34_84 := kt hg34 84 (hB34.is 0)
 refine wp_seq_k fun K44 hK44 => ?_
 refine wp_cond_true ((fr_eval rfl).trans k34_84) ?_
 refine wp_skip ?_
 refine hK44 _ _ ?_
 refine wp_seq_k fun K46 hK46 => ?_
 refine wp_block ?_
 refine rw_ 2 [(85, 0), (12, 1)] [[], [0]] (rel [iI 0, iI 0])
  ⟨fun f s W j l m n p i => opm (i.v 83 k34_83),
  fun f s W j l m n p i => opm (i.v 85 (l 0 rfl)), trivial⟩ ?_
 intro f35 s35 W35 hB35 g35 hg35 z35
 have b35_2 := hB35.b (hB34.b (hB33.b bk31_2))
 have b35_6 := hB35.b (hB34.b (hB33.b wb31_hb))
 have b35_7 := hB35.b (hB34.b (hB33.b wb31_h0))
 have b35_8 := hB35.b (hB34.b (hB33.b wb31_h1))
 have q256' := (q255'.below hB35.below)
 have k35_2 := kt hg35 2 (kt hg34 2 (kt hg33 2 k32_2))
 have k35_4 := kt hg35 4 (kt hg34 4 (kt hg33 4 (ku hg32 4 (ku hg31 4 (kt hg30 4 (kt hg29 4 (kt hg28 4 (ku hg27 4 (kt hg26 4 (kt hg24 4 (kt hg23 4 (kt hg22 4 (kt hg21 4 (kt hg20 4 (ku hg19 4 (kt hg18 4 (kt hg16 4 (kt hg15 4 (kt hg14 4 (ku hg13 4 (kt hg12 4 (kt hg10 4 (kt hg9 4 (kt hg8 4 (kt hg7 4 (kt hg6 4 (kt hg5 4 (kt hg4 4 (kt hg3 4 (kt hg2 4 (kt hg1 4 (hB1.is 1))))))))))))))))))))))))))))))))
 have k35_7 := kt hg35 7 (kt hg34 7 (kt hg33 7 (ku hg32 7 (ku hg31 7 (kt hg30 7 k29_7)))))
 have k35_12 := kt hg35 12 (hB35.is 1)
 refine ry 25 [(86, 0), (87, 1), (88, 2), (89, 3), (90, 4), (91, 5), (92, 6), (93, 7), (94, 8), (95, 9), (96, 10), (97, 11), (98, 12), (99, 13), (100, 14), (101, 15), (102, 16), (103, 17), (104, 18), (105, 19), (106, 20), (107, 21), (108, 22), (109, 23), (110, 24), (111, 25), (4, 26)] [[], [], [1], [], [], [4], [3, 4, 5], [3, 4, 5, 6], [], [3, 4, 5, 6, 7, 8], [3, 4, 5, 6, 7, 8, 9], [1, 2, 3, 4, 5, 6, 7, 8, 9, 10], [], [12], [], [], [14, 15], [14, 15, 16], [], [18], [14, 15, 16, 17, 18, 19], [14, 15, 16, 17, 18, 19, 20], [12, 13, 14, 15, 16, 17, 18, 19, 20, 21], [1, 2, 3, 4, 5, 6, 7, 8, 9, 10, 11, 12, 13, 14, 15, 16, 17, 18, 19, 20, 21, 22], [1, 2, 3, 4, 5, 6, 7, 8, 9, 10, 11, 12, 13, 14, 15, 16, 17, 18, 19, 20, 21, 22, 23], [0, 1, 2, 3, 4, 5, 6, 7, 8, 9, 10, 11, 12, 13, 14, 15, 16, 17, 18, 19, 20, 21, 22, 23, 24], [0, 1, 2, 3, 4, 5, 6, 7, 8, 9, 10, 11, 12, 13, 14, 15, 16, 17, 18, 19, 20, 21, 22, 23, 24, 25]] (rel [is (.slice none 0 0), is (.pointer (some ⟨(s1 0), 2, none⟩)), iI 100, is (.slice (some ⟨bw247', 0, none⟩) 3 3), iI 0, iI 1, is (.pointer (some ⟨bw247', 1, none⟩)), is (.slice (some ⟨ub250', 0, none⟩) 3 pb251'), iI 0, is (.pointer (some ⟨ub250', 0, none⟩)), iI (-3015), iI 3115, is (.pointer (some ⟨(s1 0), 2, none⟩)), iI 100, is (.slice (some ⟨bw247', 0, none⟩) 3 3), iI 0, is (.pointer (some ⟨bw247', 0, none⟩)), is (.slice (some ⟨ua248', 0, none⟩) 3 pa249'), iI 0, iI 1, is (.pointer (some ⟨ua248', 1, none⟩)), iI 3019, iI 3119, is (.agg #[.int .i64 3115, .int .i64 3119]), row 24 1 #[.int .i64 3115, .int .i64 3119] 43])
  ⟨fun f s W j l m n p i => opm (i.v 4 ((n 26 4 rfl rfl).trans k35_4)),
  fun f s W j l m n p i => opv rfl rfl (by simp [go_sem, i.e 2 k35_2]) rfl,
  fun f s W j l m n p i => opv rfl rfl (by simp [go_sem, i.e 87 (l 1 rfl), cb b35_2 j 2]) rfl,
  fun f s W j l m n p i => opm (i.v 7 k35_7),
  fun f s W j l m n p i => opm (i.v 12 k35_12),
  fun f s W j l m n p i => opv rfl rfl (by simp [go_sem, i.e 90 (l 4 rfl), IntWalk.i64_in (1) (by omega)]) rfl,
  fun f s W j l m n p i => opv rfl rfl (by simp [go_sem, i.e 89 (l 3 rfl), i.e 91 (l 5 rfl)]) rfl,
  fun f s W j l m n p i => opv rfl rfl (by simp [go_sem, i.e 92 (l 6 rfl), cb b35_6 j 1]) rfl,
  fun f s W j l m n p i => opm (i.v 12 k35_12),
  fun f s W j l m n p i => opv rfl rfl (by simp [go_sem, i.e 93 (l 7 rfl), i.e 94 (l 8 rfl)]) rfl,
  fun f s W j l m n p i => opv rfl rfl (by simp [go_sem, i.e 95 (l 9 rfl), cb b35_8 j 0]) rfl,
  fun f s W j l m n p i => opv rfl rfl (by simp [go_sem, i.e 88 (l 2 rfl), i.e 96 (l 10 rfl), IntWalk.i64_in (3115) (by omega)]) rfl,
  fun f s W j l m n p i => opv rfl rfl (by simp [go_sem, i.e 2 k35_2]) rfl,
  fun f s W j l m n p i => opv rfl rfl (by simp [go_sem, i.e 98 (l 12 rfl), cb b35_2 j 2]) rfl,
  fun f s W j l m n p i => opm (i.v 7 k35_7),
  fun f s W j l m n p i => opm (i.v 12 k35_12),
  fun f s W j l m n p i => opv rfl rfl (by simp [go_sem, i.e 100 (l 14 rfl), i.e 101 (l 15 rfl)]) rfl,
  fun f s W j l m n p i => opv rfl rfl (by simp [go_sem, i.e 102 (l 16 rfl), cb b35_6 j 0]) rfl,
  fun f s W j l m n p i => opm (i.v 12 k35_12),
  fun f s W j l m n p i => opv rfl rfl (by simp [go_sem, i.e 104 (l 18 rfl), IntWalk.i64_in (1) (by omega)]) rfl,
  fun f s W j l m n p i => opv rfl rfl (by simp [go_sem, i.e 103 (l 17 rfl), i.e 105 (l 19 rfl)]) rfl,
  fun f s W j l m n p i => opv rfl rfl (by simp [go_sem, i.e 106 (l 20 rfl), cb b35_7 j 1]) rfl,
  fun f s W j l m n p i => opv rfl rfl (by simp [go_sem, i.e 99 (l 13 rfl), i.e 107 (l 21 rfl), IntWalk.i64_in (3119) (by omega)]) rfl,
  fun f s W j l m n p i => opv rfl rfl (by simp [go_sem, i.e 97 (l 11 rfl), i.e 108 (l 22 rfl)]) rfl,
  fun f s W j l m n p i => opr rfl rfl (by simp [go_sem, i.e 109 (l 23 rfl)]), trivial⟩ ?_
 intro f36 s36 W36 hB36 g36 hg36 z36
 have fB36 := hB36.f (hB35.f (hB34.f (hB33.f fB31)))
 have b36_2 := hB36.b b35_2
 have b36_6 := hB36.b b35_6
 have b36_8 := hB36.b b35_8
 have b36_9 := hB36.b (hB35.b (hB34.b (hB33.b wb31_h2)))
 have q257' := (q256'.below hB36.below)
 obtain ⟨r36_24, br36_24⟩ := hB36.is 24
 have lr36_24 := hB36.lr 24 br36_24
 have k36_86 := kt hg36 86 (hB36.is 0)
 have k36_110 := kt hg36 110 r36_24
 obtain ⟨ga37, ca37, W37, ra37, ow37, ot37, z37, gg37, fB37⟩ := growN_tail 45 45 43 2 16 _ (by kernel_rfl) infoSp rfl (rowC (spC rxL) 1) 1 (off := 0) (k := 1) (c' := 1) [.int .i64 3115, .int .i64 3119] fB36 q257' rfl rfl rfl rfl (cells_at br36_24) (by omega)
 refine tail_value2 (o := _) rfl rfl rfl (run_appendOp (fr_ev k36_86) (fr_ev k36_110) ra37) ?_
 have b37_2 := ot37 _ _ (ownN_ne q257' b36_2 (by decide)) b36_2
 have b37_6 := ot37 _ _ (ownN_ne q257' b36_6 (by decide)) b36_6
 have b37_8 := ot37 _ _ (ownN_ne q257' b36_8 (by decide)) b36_8
 have b37_9 := ot37 _ _ (ownN_ne q257' b36_9 (by decide)) b36_9
 have on37 : OwnN 43 2 w.heap.size 1 (rowC (spC rxL) 1) (some ⟨ga37, 0, none⟩) ca37 W37 := .inr ⟨_, rfl, ow37⟩
 generalize hg37 : upd g36 111 (.slice (some ⟨ga37, 0, none⟩) 1 ca37) = g37
 have k37_111 := kt hg37 111 (upd_same _ _ _)
 refine tail_value (o := _) rfl rfl rfl (v := .slice (some ⟨ga37, 0, none⟩) 1 ca37) (by simp [go_sem, frv 114 k37_111]) ?_
 generalize hg38 : upd g37 4 (.slice (some ⟨ga37, 0, none⟩) 1 ca37) = g38
 have k38_83 := ku hg38 83 (ku hg37 83 (kt hg36 83 (kt hg35 83 k34_83)))
 refine wpe ?_
 refine ibn ?_
 refine hK46 _ _ ?_
 refine ry 2 [(112, 0), (83, 1)] [[], [0]] (rel [iI 1, iI 1])
  ⟨fun f s W j l m n p i => opv rfl rfl (by simp [go_sem, i.e 83 ((n 1 83 rfl rfl).trans k38_83), IntWalk.i64_in (1) (by omega)]) rfl,
  fun f s W j l m n p i => opm (i.v 112 (l 0 rfl)), trivial⟩ ?_
 intro f39 s39 W39 hB39 g39 hg39 z39
 have q258' := (on37.below hB39.below)
 refine wpe ?_
 have k39_82 := kt hg39 82 (ku hg38 82 (ku hg37 82 (kt hg36 82 (kt hg35 82 (kt hg34 82 k33_82)))))
 have k39_83 := kt hg39 83 (hB39.is 1)
 refine then_normal ?_
 rw [rounds_succ]
 refine rw_ 1 [(84, 0)] [[]] (rel [iB true])
  ⟨fun f s W j l m n p i => opv rfl rfl (by simp [go_sem, i.e 83 k39_83, i.e 82 k39_82]) rfl, trivial⟩ ?_
 intro f40 s40 W40 hB40 g40 hg40 z40
 have q259' := (q258'.below hB40.below)
 have k40_83 := kt hg40 83 k39_83
 have k40_84 := kt hg40 84 (hB40.is 0)
 refine wp_seq_k fun K49 hK49 => ?_
 refine wp_cond_true ((fr_eval rfl).trans k40_84) ?_
 refine wp_skip ?_
 refine hK49 _ _ ?_
 refine wp_seq_k fun K51 hK51 => ?_
 refine wp_block ?_
 refine rw_ 2 [(85, 0), (12, 1)] [[], [0]] (rel [iI 1, iI 1])
  ⟨fun f s W j l m n p i => opm (i.v 83 k40_83),
  fun f s W j l m n p i => opm (i.v 85 (l 0 rfl)), trivial⟩ ?_
 intro f41 s41 W41 hB41 g41 hg41 z41
 have b41_1 := hB41.b (hB40.b (hB39.b b37_2))
 have b41_3 := hB41.b (hB40.b (hB39.b b37_6))
 have b41_5 := hB41.b (hB40.b (hB39.b b37_8))
 have b41_6 := hB41.b (hB40.b (hB39.b b37_9))
 have q260' := (q259'.below hB41.below)
 have k41_2 := kt hg41 2 (kt hg40 2 (kt hg39 2 (ku hg38 2 (ku hg37 2 (kt hg36 2 k35_2)))))
 have k41_7 := kt hg41 7 (kt hg40 7 (kt hg39 7 (ku hg38 7 (ku hg37 7 (kt hg36 7 k35_7)))))
 have k41_4 := kt hg41 4 (kt hg40 4 (kt hg39 4 (kt hg38 4 (upd_same _ _ _))))
 have k41_12 := kt hg41 12 (hB41.is 1)
 refine ry 25 [(86, 0), (87, 1), (88, 2), (89, 3), (90, 4), (91, 5), (92, 6), (93, 7), (94, 8), (95, 9), (96, 10), (97, 11), (98, 12), (99, 13), (100, 14), (101, 15), (102, 16), (103, 17), (104, 18), (105, 19), (106, 20), (107, 21), (108, 22), (109, 23), (110, 24), (111, 25), (4, 26)] [[], [], [1], [], [], [4], [3, 4, 5], [3, 4, 5, 6], [], [3, 4, 5, 6, 7, 8], [3, 4, 5, 6, 7, 8, 9], [1, 2, 3, 4, 5, 6, 7, 8, 9, 10], [], [12], [], [], [14, 15], [14, 15, 16], [], [18], [14, 15, 16, 17, 18, 19], [14, 15, 16, 17, 18, 19, 20], [12, 13, 14, 15, 16, 17, 18, 19, 20, 21], [1, 2, 3, 4, 5, 6, 7, 8, 9, 10, 11, 12, 13, 14, 15, 16, 17, 18, 19, 20, 21, 22], [1, 2, 3, 4, 5, 6, 7, 8, 9, 10, 11, 12, 13, 14, 15, 16, 17, 18, 19, 20, 21, 22, 23], [0, 1, 2, 3, 4, 5, 6, 7, 8, 9, 10, 11, 12, 13, 14, 15, 16, 17, 18, 19, 20, 21, 22, 23, 24], [0, 1, 2, 3, 4, 5, 6, 7, 8, 9, 10, 11, 12, 13, 14, 15, 16, 17, 18, 19, 20, 21, 22, 23, 24, 25]] (rel [is (.slice (some ⟨ga37, 0, none⟩) 1 ca37), is (.pointer (some ⟨(s1 0), 2, none⟩)), iI 100, is (.slice (some ⟨bw247', 0, none⟩) 3 3), iI 1, iI 2, is (.pointer (some ⟨bw247', 2, none⟩)), is (.slice (some ⟨uc252', 0, none⟩) 3 pc253'), iI 1, is (.pointer (some ⟨uc252', 1, none⟩)), iI (-6000), iI 6100, is (.pointer (some ⟨(s1 0), 2, none⟩)), iI 100, is (.slice (some ⟨bw247', 0, none⟩) 3 3), iI 1, is (.pointer (some ⟨bw247', 1, none⟩)), is (.slice (some ⟨ub250', 0, none⟩) 3 pb251'), iI 1, iI 2, is (.pointer (some ⟨ub250', 2, none⟩)), iI 6000, iI 6100, is (.agg #[.int .i64 6100, .int .i64 6100]), row 24 1 #[.int .i64 6100, .int .i64 6100] 43])
  ⟨fun f s W j l m n p i => opm (i.v 4 ((n 26 4 rfl rfl).trans k41_4)),
  fun f s W j l m n p i => opv rfl rfl (by simp [go_sem, i.e 2 k41_2]) rfl,
  fun f s W j l m n p i => opv rfl rfl (by simp [go_sem, i.e 87 (l 1 rfl), cb b41_1 j 2]) rfl,
  fun f s W j l m n p i => opm (i.v 7 k41_7),
  fun f s W j l m n p i => opm (i.v 12 k41_12),
  fun f s W j l m n p i => opv rfl rfl (by simp [go_sem, i.e 90 (l 4 rfl), IntWalk.i64_in (2) (by omega)]) rfl,
  fun f s W j l m n p i => opv rfl rfl (by simp [go_sem, i.e 89 (l 3 rfl), i.e 91 (l 5 rfl)]) rfl,
  fun f s W j l m n p i => opv rfl rfl (by simp [go_sem, i.e 92 (l 6 rfl), cb b41_3 j 2]) rfl,
  fun f s W j l m n p i => opm (i.v 12 k41_12),
  fun f s W j l m n p i => opv rfl rfl (by simp [go_sem, i.e 93 (l 7 rfl), i.e 94 (l 8 rfl)]) rfl,
  fun f s W j l m n p i => opv rfl rfl (by simp [go_sem, i.e 95 (l 9 rfl), cb b41_6 j 1]) rfl,
  fun f s W j l m n p i => opv rfl rfl (by simp [go_sem, i.e 88 (l 2 rfl), i.e 96 (l 10 rfl), IntWalk.i64_in (6100) (by omega)]) rfl,
  fun f s W j l m n p i => opv rfl rfl (by simp [go_sem, i.e 2 k41_2]) rfl,
  fun f s W j l m n p i => opv rfl rfl (by simp [go_sem, i.e 98 (l 12 rfl), cb b41_1 j 2]) rfl,
  fun f s W j l m n p i => opm (i.v 7 k41_7),
  fun f s W j l m n p i => opm (i.v 12 k41_12),
  fun f s W j l m n p i => opv rfl rfl (by simp [go_sem, i.e 100 (l 14 rfl), i.e 101 (l 15 rfl)]) rfl,
  fun f s W j l m n p i => opv rfl rfl (by simp [go_sem, i.e 102 (l 16 rfl), cb b41_3 j 1]) rfl,
  fun f s W j l m n p i => opm (i.v 12 k41_12),
  fun f s W j l m n p i => opv rfl rfl (by simp [go_sem, i.e 104 (l 18 rfl), IntWalk.i64_in (2) (by omega)]) rfl,
  fun f s W j l m n p i => opv rfl rfl (by simp [go_sem, i.e 103 (l 17 rfl), i.e 105 (l 19 rfl)]) rfl,
  fun f s W j l m n p i => opv rfl rfl (by simp [go_sem, i.e 106 (l 20 rfl), cb b41_5 j 2]) rfl,
  fun f s W j l m n p i => opv rfl rfl (by simp [go_sem, i.e 99 (l 13 rfl), i.e 107 (l 21 rfl), IntWalk.i64_in (6100) (by omega)]) rfl,
  fun f s W j l m n p i => opv rfl rfl (by simp [go_sem, i.e 97 (l 11 rfl), i.e 108 (l 22 rfl)]) rfl,
  fun f s W j l m n p i => opr rfl rfl (by simp [go_sem, i.e 109 (l 23 rfl)]), trivial⟩ ?_
 intro f42 s42 W42 hB42 g42 hg42 z42
 have fB42 := hB42.f (hB41.f (hB40.f (hB39.f fB37)))
 have q261' := (q260'.below hB42.below)
 obtain ⟨r42_24, br42_24⟩ := hB42.is 24
 have lr42_24 := hB42.lr 24 br42_24
 have k42_86 := kt hg42 86 (hB42.is 0)
 have k42_110 := kt hg42 110 r42_24
 obtain ⟨ga43, ca43, W43, ra43, ow43, ot43, z43, gg43, fB43⟩ := growN_tail 45 45 43 2 16 _ (by kernel_rfl) infoSp rfl (rowC (spC rxL) 2) 2 (off := 0) (k := 1) (c' := 1) [.int .i64 6100, .int .i64 6100] fB42 q261' rfl rfl rfl rfl (cells_at br42_24) (by omega)
 refine tail_value2 (o := _) rfl rfl rfl (run_appendOp (fr_ev k42_86) (fr_ev k42_110) ra43) ?_
 have on43 : OwnN 43 2 w.heap.size 2 (rowC (spC rxL) 2) (some ⟨ga43, 0, none⟩) ca43 W43 := .inr ⟨_, rfl, ow43⟩
 generalize hg43 : upd g42 111 (.slice (some ⟨ga43, 0, none⟩) 2 ca43) = g43
 have k43_111 := kt hg43 111 (upd_same _ _ _)
 refine tail_value (o := _) rfl rfl rfl (v := .slice (some ⟨ga43, 0, none⟩) 2 ca43) (by simp [go_sem, frv 114 k43_111]) ?_
 generalize hg44 : upd g43 4 (.slice (some ⟨ga43, 0, none⟩) 2 ca43) = g44
 have k44_83 := ku hg44 83 (ku hg43 83 (kt hg42 83 (kt hg41 83 k40_83)))
 refine wpe ?_
 refine ibn ?_
 refine hK51 _ _ ?_
 refine ry 2 [(112, 0), (83, 1)] [[], [0]] (rel [iI 2, iI 2])
  ⟨fun f s W j l m n p i => opv rfl rfl (by simp [go_sem, i.e 83 ((n 1 83 rfl rfl).trans k44_83), IntWalk.i64_in (2) (by omega)]) rfl,
  fun f s W j l m n p i => opm (i.v 112 (l 0 rfl)), trivial⟩ ?_
 intro f45 s45 W45 hB45 g45 hg45 z45
 have q262' := (on43.below hB45.below)
 refine wpe ?_
 have k45_82 := kt hg45 82 (ku hg44 82 (ku hg43 82 (kt hg42 82 (kt hg41 82 (kt hg40 82 k39_82)))))
 have k45_83 := kt hg45 83 (hB45.is 1)
 refine then_normal ?_
 rw [rounds_succ]
 refine rw_ 1 [(84, 0)] [[]] (rel [iB false])
  ⟨fun f s W j l m n p i => opv rfl rfl (by simp [go_sem, i.e 83 k45_83, i.e 82 k45_82]) rfl, trivial⟩ ?_
 intro f46 s46 W46 hB46 g46 hg46 z46
 have q263' := (q262'.below hB46.below)
 have k46_4 := kt hg46 4 (kt hg45 4 (kt hg44 4 (upd_same _ _ _)))
 have k46_84 := kt hg46 84 (hB46.is 0)
 refine wp_seq_k fun K54 hK54 => ?_
 refine wp_cond_false ((fr_eval rfl).trans k46_84) ?_
 refine wp_exit ?_
 refine then_exit ?_
 refine then_exit ?_
 refine inBlock_at ?_
 refine hK41 _ _ ?_
 refine rw_ 3 [(113, 0), (4, 1), (5, 2)] [[], [0], []] (rel [is (.slice (some ⟨ga43, 0, none⟩) 2 ca43), is (.slice (some ⟨ga43, 0, none⟩) 2 ca43), iI 0])
  ⟨fun f s W j l m n p i => opm (i.v 4 ((n 1 4 rfl rfl).trans k46_4)),
  fun f s W j l m n p i => opm (i.v 113 (l 0 rfl)),
  fun f s W j l m n p i => opz, trivial⟩ ?_
 intro f47 s47 W47 hB47 g47 hg47 z47
 have fB47 := hB47.f (hB46.f (hB45.f fB43))
 have q264' := (q263'.below hB47.below)
 have k47_4 := kt hg47 4 (hB47.is 1)
 have k47_5 := kt hg47 5 (hB47.is 2)
 refine wp_ret ?_
 refine leave_gen (v := .tuple #[.slice (some ⟨ga43, 0, none⟩) 2 ca43, .int .i64 0]) (.inr rfl) (by simp [results, Try.results36, go_sem, frv 114 k47_4, frv 114 k47_5]) ?_
 exact ⟨_, _, rfl, ownN_spL q264', fB47⟩
end Go.Proofs.Ytcgccflcjejlhaa
