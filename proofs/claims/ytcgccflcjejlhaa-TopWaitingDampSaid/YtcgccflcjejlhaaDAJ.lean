/- Part of the proof: what the claim leans on. -/
import Derived.Test.YtcgccflcjejlhaaDAE
import Derived.Test.YtcgccflcjejlhaaDAI
set_option linter.unusedSimpArgs false
set_option linter.unusedVariables false
namespace Go.Proofs.Ytcgccflcjejlhaa
open Go.RowKit
set_option maxRecDepth 100000 in
set_option maxHeartbeats 8000000 in
theorem fl_open (nm ns nj : Nat) (CH : List (List Int)) (x : Fs) (js : Nat → Fj) (bc oc cc bs os_ sc bj oj cj : Nat) (sa : Option Addr) (adc : Nat → Option Addr) (kpc : Nat → Nat) (adj : Nat → Option Addr) (kpj : Nat → Nat) (w : World) (hF : FlOk nm ns nj CH x js) (hM : FlR nm ns nj CH js x bc oc bs os_ bj oj sa adc kpc adj kpj w) :
  Calls Try.prog 46 #[.agg #[.int .i64 ((nm : Int)), .slice (some ⟨bc, oc, none⟩) (2) (cc), .slice (sa) (ns) (sc)], .slice (some ⟨bj, oj, none⟩) (nj) (cj)] w (fun e w' => e = .returned (.tuple #[.agg #[.int .i64 ((nm : Int)), .slice (some ⟨bc, oc, none⟩) (2) (cc), .slice (sa) (ns) (sc), .slice (some ⟨bj, oj, none⟩) (nj) (cj)], .int .i64 0]) ∧ Below w.heap.size w w') := by
 have g1_ := hF.nmB
 have g2_ := hF.nsB
 have g3_ := hF.njB
 have hns_ : decide (10 < (ns : Int)) = false := decide_eq_false (by omega)
 have hnj_ : decide (6 < (nj : Int)) = false := decide_eq_false (by omega)
 refine calls_fr Try.func46 Try.ntmps46 rfl rfl fun g hg => ?_
 have k0 : g 0 = .agg #[.int .i64 ((nm : Int)), .slice (some ⟨bc, oc, none⟩) (2) (cc), .slice (sa) (ns) (sc)] := hg 0
 have k1 : g 1 = .slice (some ⟨bj, oj, none⟩) (nj) (cj) := hg 1
 clear hg
 have fB0 : Below w.heap.size w w := Below.refl _ _
 refine wp_seq_k fun K1 hK1 => ?_
 refine region_dk 3 [(2, 0), (4, 1), (5, 2)] [[], [], []] (rel [bx 0 #[.int .i64 ((nm : Int)), .slice (some ⟨bc, oc, none⟩) (2) (cc), .slice (sa) (ns) (sc)] 29,
   bx 1 #[.int .i64 0, .slice (none) (0) (0), .slice (none) (0) (0), .slice (none) (0) (0)] 94,
   is (.int .i64 0)])
  ⟨bx_k, bx_k, is_k, trivial⟩
  ⟨fun f s W c d i j k a => opb rfl rfl (by simp [go_sem, a.e 0 k0]),
  fun f s W c d i j k a => opb rfl rfl (by simp [go_sem]),
  fun f s W c d i j k a => opv rfl rfl (by simp [go_sem]) rfl, trivial⟩ ?_
 intro f1 s1 W1 hB1 g1 hg1
 have fB1 := hB1.f fB0
 have z1 := hB1.below.size
 obtain ⟨r1_0, br1_0⟩ := hB1.is 0
 have lr1_0 := hB1.lr 0 br1_0
 obtain ⟨r1_1, br1_1⟩ := hB1.is 1
 have lr1_1 := hB1.lr 1 br1_1
 have ne1_0_1 := hB1.nb 0 1
 refine hK1 _ _ ?_
 have k1_1 := kt hg1 1 k1
 have k1_2 := kt hg1 2 r1_0
 have k1_4 := kt hg1 4 r1_1
 have k1_5 := kt hg1 5 (hB1.is 2)
 refine wp_seq_k fun K2 hK2 => ?_
 refine region_dk 2 [(7, 0), (6, 1)] [[], [0]] (rel [is (.func (.func 88) #[] #[.pointer (some ⟨(s1 0), 0, none⟩)]),
   is (.func (.func 88) #[] #[.pointer (some ⟨(s1 0), 0, none⟩)])])
  ⟨is_k, is_k, trivial⟩
  ⟨fun f s W c d i j k a => opv rfl rfl (by simp [go_sem, a.e 2 k1_2]) rfl,
  fun f s W c d i j k a => opv rfl rfl (by simp [go_sem, a.e 7 (d 0 rfl)]) rfl, trivial⟩ ?_
 intro f2 s2 W2 hB2 g2 hg2
 have fB2 := hB2.f fB1
 have z2 := hB2.below.size
 have b2_0 := hB2.b br1_0
 have b2_1 := hB2.b br1_1
 refine hK2 _ _ ?_
 have k2_1 := kt hg2 1 k1_1
 have k2_2 := kt hg2 2 k1_2
 have k2_4 := kt hg2 4 k1_4
 have k2_5 := kt hg2 5 k1_5
 have k2_6 := kt hg2 6 (hB2.is 1)
 refine wp_seq_k fun K3 hK3 => ?_
 refine wp_block ?_
 refine wp_seq_k fun K4 hK4 => ?_
 refine wp_seq_k fun K5 hK5 => ?_
 refine region_dk 6 [(9, 0), (10, 1), (11, 2), (12, 3), (13, 4), (8, 5)] [[], [0], [0, 1], [0, 1, 2], [0, 1, 2, 3], [0, 1, 2, 3, 4]] (rel [is (.pointer (some ⟨(s1 0), 0, none⟩)),
   is (.int .i64 ((nm : Int))),
   row 2 1 #[.int .i64 ((nm : Int))] 3,
   is (.bool true),
   is (.bool false),
   is (.bool false)])
  ⟨is_k, is_k, row_k, is_k, is_k, is_k, trivial⟩
  ⟨fun f s W c d i j k a => opv rfl rfl (by simp [go_sem, a.e 2 k2_2]) rfl,
  fun f s W c d i j k a => opv rfl rfl (by simp [go_sem, a.e 9 (d 0 rfl), cb b2_0 c 0]) rfl,
  fun f s W c d i j k a => opr rfl rfl (by simp [go_sem, a.e 10 (d 1 rfl)]),
  fun f s W c d i j k a => opDo_call (args := #[.int .i64 1, .int .i64 4, .slice (some ⟨(s 2), 0, none⟩) (1) (1)]) rfl rfl (by simp [go_sem, a.e 11 (d 2 rfl).1]) (fl_within_any (1) (4) _ 1 1 [(nm : Int)] W (ii_block (xs := [(nm : Int)]) (d 2 rfl).2 rfl rfl)) ((fun e W' h => by have h1 := h.1; rw [fl_within_yes (by simp <;> omega)] at h1; exact ⟨_, h1, h.2, rfl⟩)),
  fun f s W c d i j k a => opv rfl rfl (by simp [go_sem, a.e 12 (d 3 rfl)]) rfl,
  fun f s W c d i j k a => opv rfl rfl (by simp [go_sem, a.e 13 (d 4 rfl)]) rfl, trivial⟩ ?_
 intro f3 s3 W3 hB3 g3 hg3
 have fB3 := hB3.f fB2
 have z3 := hB3.below.size
 have b3_0 := hB3.b b2_0
 have b3_1 := hB3.b b2_1
 obtain ⟨r3_2, br3_2⟩ := hB3.is 2
 have lr3_2 := hB3.lr 2 br3_2
 refine hK5 _ _ ?_
 have k3_1 := kt hg3 1 k2_1
 have k3_2 := kt hg3 2 k2_2
 have k3_4 := kt hg3 4 k2_4
 have k3_5 := kt hg3 5 k2_5
 have k3_6 := kt hg3 6 k2_6
 have k3_8 := kt hg3 8 (hB3.is 5)
 refine wp_cond_false ((fr_eval rfl).trans k3_8) ?_
 refine wp_seq_k fun K7 hK7 => ?_
 refine region_dk 7 [(14, 0), (15, 1), (16, 2), (17, 3), (18, 4), (19, 5), (8, 6)] [[], [0], [0, 1], [0, 1, 2], [0, 1, 2, 3], [0, 1, 2, 3, 4], [0, 1, 2, 3, 4, 5]] (rel [is (.pointer (some ⟨(s1 0), 1, none⟩)),
   is (.slice (some ⟨bc, oc, none⟩) (2) (cc)),
   is (.int .i64 2),
   row 3 1 #[.int .i64 2] 3,
   is (.bool true),
   is (.bool false),
   is (.bool false)])
  ⟨is_k, is_k, is_k, row_k, is_k, is_k, is_k, trivial⟩
  ⟨fun f s W c d i j k a => opv rfl rfl (by simp [go_sem, a.e 2 k3_2]) rfl,
  fun f s W c d i j k a => opv rfl rfl (by simp [go_sem, a.e 14 (d 0 rfl), cb b3_0 c 1]) rfl,
  fun f s W c d i j k a => opv rfl rfl (by simp [go_sem, a.e 15 (d 1 rfl)]) rfl,
  fun f s W c d i j k a => opr rfl rfl (by simp [go_sem, a.e 16 (d 2 rfl)]),
  fun f s W c d i j k a => opDo_call (args := #[.int .i64 1, .int .i64 4, .slice (some ⟨(s 3), 0, none⟩) (1) (1)]) rfl rfl (by simp [go_sem, a.e 17 (d 3 rfl).1]) (fl_within_any (1) (4) _ 1 1 [2] W (ii_block (xs := [2]) (d 3 rfl).2 rfl rfl)) ((fun e W' h => by have h1 := h.1; rw [fl_within_yes (by simp <;> omega)] at h1; exact ⟨_, h1, h.2, rfl⟩)),
  fun f s W c d i j k a => opv rfl rfl (by simp [go_sem, a.e 18 (d 4 rfl)]) rfl,
  fun f s W c d i j k a => opv rfl rfl (by simp [go_sem, a.e 19 (d 5 rfl)]) rfl, trivial⟩ ?_
 intro f4 s4 W4 hB4 g4 hg4
 have fB4 := hB4.f fB3
 have z4 := hB4.below.size
 have b4_0 := hB4.b b3_0
 have b4_1 := hB4.b b3_1
 have b4_2 := hB4.b br3_2
 obtain ⟨r4_3, br4_3⟩ := hB4.is 3
 have lr4_3 := hB4.lr 3 br4_3
 refine hK7 _ _ ?_
 have k4_1 := kt hg4 1 k3_1
 have k4_2 := kt hg4 2 k3_2
 have k4_4 := kt hg4 4 k3_4
 have k4_5 := kt hg4 5 k3_5
 have k4_6 := kt hg4 6 k3_6
 have k4_8 := kt hg4 8 (hB4.is 6)
 refine wp_cond_false ((fr_eval rfl).trans k4_8) ?_
 refine region_dk 5 [(20, 0), (21, 1), (22, 2), (23, 3), (8, 4)] [[], [0], [], [0, 1, 2], [0, 1, 2, 3]] (rel [is (.pointer (some ⟨(s1 0), 1, none⟩)),
   is (.slice (some ⟨bc, oc, none⟩) (2) (cc)),
   is (.func (.func 88) #[] #[.pointer (some ⟨(s1 0), 0, none⟩)]),
   is (.bool false),
   is (.bool false)])
  ⟨is_k, is_k, is_k, is_k, is_k, trivial⟩
  ⟨fun f s W c d i j k a => opv rfl rfl (by simp [go_sem, a.e 2 k4_2]) rfl,
  fun f s W c d i j k a => opv rfl rfl (by simp [go_sem, a.e 20 (d 0 rfl), cb b4_0 c 1]) rfl,
  fun f s W c d i j k a => opv rfl rfl (by simp [go_sem, a.e 6 k4_6]) rfl,
  fun f s W c d i j k a => by have l := below_trans fB4 c; exact opc (args := #[.slice (some ⟨bc, oc, none⟩) (2) (cc), .func (.func 88) #[] #[.pointer (some ⟨(s1 0), 0, none⟩)]]) rfl rfl (by simp [go_sem, a.e 21 (d 1 rfl), a.e 22 (d 2 rfl)]) (contains_ch nm ns nj CH x js bc oc cc bs os_ sc bj oj cj sa adc kpc adj kpj W hF (hM.below l) (s1 0) (blk_below b4_0 c)),
  fun f s W c d i j k a => opv rfl rfl (by simp [go_sem, a.e 23 (d 3 rfl)]) rfl, trivial⟩ ?_
 intro f5 s5 W5 hB5 g5 hg5
 have fB5 := hB5.f fB4
 have z5 := hB5.below.size
 have b5_0 := hB5.b b4_0
 have b5_1 := hB5.b b4_1
 have b5_2 := hB5.b b4_2
 have b5_3 := hB5.b br4_3
 refine hK4 _ _ ?_
 have k5_1 := kt hg5 1 k4_1
 have k5_2 := kt hg5 2 k4_2
 have k5_4 := kt hg5 4 k4_4
 have k5_5 := kt hg5 5 k4_5
 have k5_8 := kt hg5 8 (hB5.is 4)
 refine wp_cond_false ((fr_eval rfl).trans k5_8) ?_
 refine wp_seq_k fun K10 hK10 => ?_
 refine region_dk 5 [(26, 0), (27, 1), (28, 2), (29, 3), (25, 4)] [[], [0], [0, 1], [0, 1, 2], [0, 1, 2, 3]] (rel [is (.pointer (some ⟨(s1 0), 2, none⟩)),
   is (.slice (sa) (ns) (sc)),
   is (.int .i64 ((ns : Int))),
   is (.bool false),
   is (.bool false)])
  ⟨is_k, is_k, is_k, is_k, is_k, trivial⟩
  ⟨fun f s W c d i j k a => opv rfl rfl (by simp [go_sem, a.e 2 k5_2]) rfl,
  fun f s W c d i j k a => opv rfl rfl (by simp [go_sem, a.e 26 (d 0 rfl), cb b5_0 c 2]) rfl,
  fun f s W c d i j k a => opv rfl rfl (by simp [go_sem, a.e 27 (d 1 rfl)]) rfl,
  fun f s W c d i j k a => opv rfl rfl (by simp [go_sem, a.e 28 (d 2 rfl), hns_]) rfl,
  fun f s W c d i j k a => opv rfl rfl (by simp [go_sem, a.e 29 (d 3 rfl)]) rfl, trivial⟩ ?_
 intro f6 s6 W6 hB6 g6 hg6
 have fB6 := hB6.f fB5
 have z6 := hB6.below.size
 have b6_0 := hB6.b b5_0
 have b6_1 := hB6.b b5_1
 have b6_2 := hB6.b b5_2
 have b6_3 := hB6.b b5_3
 refine hK10 _ _ ?_
 have k6_1 := kt hg6 1 k5_1
 have k6_2 := kt hg6 2 k5_2
 have k6_4 := kt hg6 4 k5_4
 have k6_5 := kt hg6 5 k5_5
 have k6_25 := kt hg6 25 (hB6.is 4)
 refine wp_cond_false ((fr_eval rfl).trans k6_25) ?_
 refine wp_seq_k fun K12 hK12 => ?_
 refine region_dk 5 [(32, 0), (33, 1), (34, 2), (35, 3), (31, 4)] [[], [0], [], [0, 1, 2], [0, 1, 2, 3]] (rel [is (.pointer (some ⟨(s1 0), 2, none⟩)),
   is (.slice (sa) (ns) (sc)),
   is (.func (.func 92) #[] #[.pointer (some ⟨(s1 0), 0, none⟩)]),
   is (.bool false),
   is (.bool false)])
  ⟨is_k, is_k, is_k, is_k, is_k, trivial⟩
  ⟨fun f s W c d i j k a => opv rfl rfl (by simp [go_sem, a.e 2 k6_2]) rfl,
  fun f s W c d i j k a => opv rfl rfl (by simp [go_sem, a.e 32 (d 0 rfl), cb b6_0 c 2]) rfl,
  fun f s W c d i j k a => opv rfl rfl (by simp [go_sem, a.e 2 k6_2]) rfl,
  fun f s W c d i j k a => by have l := below_trans fB6 c; exact opc (args := #[.slice (sa) (ns) (sc), .func (.func 92) #[] #[.pointer (some ⟨(s1 0), 0, none⟩)]]) rfl rfl (by simp [go_sem, a.e 33 (d 1 rfl), a.e 34 (d 2 rfl)]) (contains_st nm ns nj CH x js bc oc cc bs os_ sc bj oj cj sa adc kpc adj kpj W hF (hM.below l) (s1 0) (blk_below b6_0 c)),
  fun f s W c d i j k a => opv rfl rfl (by simp [go_sem, a.e 35 (d 3 rfl)]) rfl, trivial⟩ ?_
 intro f7 s7 W7 hB7 g7 hg7
 have fB7 := hB7.f fB6
 have z7 := hB7.below.size
 have b7_0 := hB7.b b6_0
 have b7_1 := hB7.b b6_1
 have b7_2 := hB7.b b6_2
 have b7_3 := hB7.b b6_3
 refine hK12 _ _ ?_
 have k7_1 := kt hg7 1 k6_1
 have k7_2 := kt hg7 2 k6_2
 have k7_4 := kt hg7 4 k6_4
 have k7_5 := kt hg7 5 k6_5
 have k7_31 := kt hg7 31 (hB7.is 4)
 refine wp_cond_false ((fr_eval rfl).trans k7_31) ?_
 refine wp_seq_k fun K14 hK14 => ?_
 refine region_dk 4 [(38, 0), (39, 1), (40, 2), (37, 3)] [[], [0], [0, 1], [0, 1, 2]] (rel [is (.slice (some ⟨bj, oj, none⟩) (nj) (cj)),
   is (.int .i64 ((nj : Int))),
   is (.bool false),
   is (.bool false)])
  ⟨is_k, is_k, is_k, is_k, trivial⟩
  ⟨fun f s W c d i j k a => opv rfl rfl (by simp [go_sem, a.e 1 k7_1]) rfl,
  fun f s W c d i j k a => opv rfl rfl (by simp [go_sem, a.e 38 (d 0 rfl)]) rfl,
  fun f s W c d i j k a => opv rfl rfl (by simp [go_sem, a.e 39 (d 1 rfl), hnj_]) rfl,
  fun f s W c d i j k a => opv rfl rfl (by simp [go_sem, a.e 40 (d 2 rfl)]) rfl, trivial⟩ ?_
 intro f8 s8 W8 hB8 g8 hg8
 have fB8 := hB8.f fB7
 have z8 := hB8.below.size
 have b8_0 := hB8.b b7_0
 have b8_1 := hB8.b b7_1
 have b8_2 := hB8.b b7_2
 have b8_3 := hB8.b b7_3
 refine hK14 _ _ ?_
 have k8_1 := kt hg8 1 k7_1
 have k8_2 := kt hg8 2 k7_2
 have k8_4 := kt hg8 4 k7_4
 have k8_5 := kt hg8 5 k7_5
 have k8_37 := kt hg8 37 (hB8.is 3)
 refine wp_cond_false ((fr_eval rfl).trans k8_37) ?_
 refine wp_seq_k fun K16 hK16 => ?_
 refine region_dk 4 [(43, 0), (44, 1), (45, 2), (42, 3)] [[], [], [0, 1], [0, 1, 2]] (rel [is (.slice (some ⟨bj, oj, none⟩) (nj) (cj)),
   is (.func (.func 95) #[] #[.pointer (some ⟨(s1 0), 0, none⟩)]),
   is (.bool false),
   is (.bool false)])
  ⟨is_k, is_k, is_k, is_k, trivial⟩
  ⟨fun f s W c d i j k a => opv rfl rfl (by simp [go_sem, a.e 1 k8_1]) rfl,
  fun f s W c d i j k a => opv rfl rfl (by simp [go_sem, a.e 2 k8_2]) rfl,
  fun f s W c d i j k a => by have l := below_trans fB8 c; exact opc (args := #[.slice (some ⟨bj, oj, none⟩) (nj) (cj), .func (.func 95) #[] #[.pointer (some ⟨(s1 0), 0, none⟩)]]) rfl rfl (by simp [go_sem, a.e 43 (d 0 rfl), a.e 44 (d 1 rfl)]) (contains_jb nm ns nj CH x js bc oc cc bs os_ sc bj oj cj sa adc kpc adj kpj W hF (hM.below l) (s1 0) (blk_below b8_0 c)),
  fun f s W c d i j k a => opv rfl rfl (by simp [go_sem, a.e 45 (d 2 rfl)]) rfl, trivial⟩ ?_
 intro f9 s9 W9 hB9 g9 hg9
 have fB9 := hB9.f fB8
 have z9 := hB9.below.size
 have b9_0 := hB9.b b8_0
 have b9_1 := hB9.b b8_1
 have b9_2 := hB9.b b8_2
 have b9_3 := hB9.b b8_3
 refine hK16 _ _ ?_
 have k9_1 := kt hg9 1 k8_1
 have k9_2 := kt hg9 2 k8_2
 have k9_4 := kt hg9 4 k8_4
 have k9_5 := kt hg9 5 k8_5
 have k9_42 := kt hg9 42 (hB9.is 3)
 refine wp_cond_false ((fr_eval rfl).trans k9_42) ?_
 refine wp_skip ?_
 refine inBlock_normal ?_
 refine hK3 _ _ ?_
 refine wp_seq_k fun K18 hK18 => ?_
 refine region_dk 3 [(47, 0), (48, 1), (49, 2), (5, 4)] [[], [], [0, 1], [0, 1, 2], [0, 1, 2, 3]] (rel [is (.agg #[.int .i64 ((nm : Int)), .slice (some ⟨bc, oc, none⟩) (2) (cc), .slice (sa) (ns) (sc)]),
   is (.slice (some ⟨bj, oj, none⟩) (nj) (cj)),
   is (.agg #[.int .i64 ((nm : Int)), .slice (some ⟨bc, oc, none⟩) (2) (cc), .slice (sa) (ns) (sc), .slice (some ⟨bj, oj, none⟩) (nj) (cj)])])
  ⟨is_k, is_k, is_k, trivial⟩
  ⟨fun f s W c d i j k a => opv rfl rfl (by simp [go_sem, a.e 2 k9_2, cb b9_0 c 0, cb b9_0 c 1, cb b9_0 c 2]) rfl,
  fun f s W c d i j k a => opv rfl rfl (by simp [go_sem, a.e 1 k9_1]) rfl,
  fun f s W c d i j k a => opv rfl rfl (by simp [go_sem, a.e 47 (d 0 rfl), a.e 48 (d 1 rfl)]) rfl, trivial⟩ ?_
 intro f10 s10 W10 hB10 g10 hg10
 have fB10 := hB10.f fB9
 have z10 := hB10.below.size
 have b10_0 := hB10.b b9_0
 have b10_1 := hB10.b b9_1
 have b10_2 := hB10.b b9_2
 have b10_3 := hB10.b b9_3
 have k10_4 := kt hg10 4 k9_4
 have k10_49 := kt hg10 49 (hB10.is 2)
 obtain ⟨W11, hW11⟩ : ∃ W', W' = W10.setRow (s1 1) #[.int .i64 ((nm : Int)), .slice (some ⟨bc, oc, none⟩) (2) (cc), .slice (sa) (ns) (sc), .slice (some ⟨bj, oj, none⟩) (nj) (cj)] := ⟨_, rfl⟩
 refine tail_skip (o := _) rfl ⟨rfl, rfl⟩ (run_seg hW11 (fr_ev k10_4) (fr_ev k10_49) b10_1 rfl rfl rfl rfl) ?_
 obtain ⟨fB11, nb11, ot11, z11⟩ := seg_facts hW11 fB10 b10_1 (by omega)
 clear hW11
 have b11_0 := ot11 _ _ (by omega) b10_0
 have b11_2 := ot11 _ _ (by omega) b10_2
 have b11_3 := ot11 _ _ (by omega) b10_3
 refine tail_value (o := _) rfl rfl rfl (v := .int .i64 0) (by simp [go_sem]) ?_
 generalize hg12 : upd g10 5 (.int .i64 0) = g12
 have k12_4 := ku hg12 4 k10_4
 have k12_5 := kt hg12 5 (upd_same _ _ _)
 refine wpOps_end ?_
 refine hK18 _ _ ?_
 refine wp_ret ?_
 refine leave_gen (v := .tuple #[.agg #[.int .i64 ((nm : Int)), .slice (some ⟨bc, oc, none⟩) (2) (cc), .slice (sa) (ns) (sc), .slice (some ⟨bj, oj, none⟩) (nj) (cj)], .int .i64 0]) (.inr rfl) (by simp [results, Try.results46, go_sem, frv 50 k12_4, cl nb11 0, cl nb11 1, cl nb11 2, cl nb11 3, frv 50 k12_5]) ?_
 exact ⟨rfl, fB11⟩
def IsRng (n : Nat) (v : Value) (W : World) : Prop := ∃ g c, v = .slice (some ⟨g, 0, none⟩) n c ∧ Ii W (some ⟨g, 0, none⟩) n c ((List.range n).map (fun i : Nat => (i : Int)))
theorem IsRng.below {n : Nat} {v : Value} {W W' : World} (h : IsRng n v W) (hb : Below W.heap.size W W') : IsRng n v W' := by
  obtain ⟨g, c, e, h⟩ := h; exact ⟨g, c, e, h.below hb (Nat.le_refl _)⟩
theorem rng_at {W : World} {g n c k : Nat} (h : Ii W (some ⟨g, 0, none⟩) n c ((List.range n).map (fun i : Nat => (i : Int)))) (hk : k < n) : W.cell? ⟨g, 0 + k, none⟩ = some (.int .i64 (k : Int)) := by
  obtain ⟨b, o, e, -, hc⟩ := h.at (by simp; omega)
  cases e
  rw [hc k (by simpa using hk)]
  simp [hk]
set_option maxRecDepth 100000 in
set_option maxHeartbeats 8000000 in
theorem fl_order (nm ns nj : Nat) (CH : List (List Int)) (x : Fs) (js : Nat → Fj) (bc oc cc bs os_ sc bj oj cj : Nat) (sa : Option Addr) (adc : Nat → Option Addr) (kpc : Nat → Nat) (adj : Nat → Option Addr) (kpj : Nat → Nat) (w : World) (hF : FlOk nm ns nj CH x js) (hM : FlR nm ns nj CH js x bc oc bs os_ bj oj sa adc kpc adj kpj w) (od : Nat → Nat) (ao : Option Addr) (no co : Nat) (xs : List Int) (hX : Ii w ao no co xs) (hno : no = nj) (hsort : (xs.mergeSort fun x y => decide (x ≤ y)) = (List.range nj).map (fun i : Nat => (i : Int))) (hnj : 0 < nj) :
  Calls Try.prog 24 #[.agg #[.int .i64 ((nm : Int)), .slice (some ⟨bc, oc, none⟩) (2) (cc), .slice (sa) (ns) (sc)], .slice (some ⟨bj, oj, none⟩) (nj) (cj), .slice (ao) (no) (co)] w (fun e w' => e = .returned (.tuple #[.agg #[.int .i64 ((nm : Int)), .slice (some ⟨bc, oc, none⟩) (2) (cc), .slice (sa) (ns) (sc), .slice (some ⟨bj, oj, none⟩) (nj) (cj)], .int .i64 0]) ∧ Below w.heap.size w w') := by
 have g1_ := hF.njB
 have hxl_ : xs.length = nj := by have := hX.1; omega
 have hx0_ : 0 < xs.length := by omega
 have hno_ : ((no : Int) != (nj : Int)) = false := bne_eq_false_iff_eq.2 (by omega)
 refine calls_fr Try.func24 Try.ntmps24 rfl rfl fun g hg => ?_
 have k0 : g 0 = .agg #[.int .i64 ((nm : Int)), .slice (some ⟨bc, oc, none⟩) (2) (cc), .slice (sa) (ns) (sc)] := hg 0
 have k1 : g 1 = .slice (some ⟨bj, oj, none⟩) (nj) (cj) := hg 1
 have k2 : g 2 = .slice (ao) (no) (co) := hg 2
 clear hg
 have fB0 : Below w.heap.size w w := Below.refl _ _
 refine wp_seq_k fun K1 hK1 => ?_
 refine region_dk 3 [(3, 0), (6, 1), (7, 2)] [[], [], []] (rel [bx 0 #[.int .i64 ((nm : Int)), .slice (some ⟨bc, oc, none⟩) (2) (cc), .slice (sa) (ns) (sc)] 29,
   bx 1 #[.int .i64 0, .slice (none) (0) (0), .slice (none) (0) (0), .slice (none) (0) (0)] 94,
   is (.int .i64 0)])
  ⟨bx_k, bx_k, is_k, trivial⟩
  ⟨fun f s W c d j l m a => opb rfl rfl (by simp [go_sem, a.e 0 k0]),
  fun f s W c d j l m a => opb rfl rfl (by simp [go_sem]),
  fun f s W c d j l m a => opv rfl rfl (by simp [go_sem]) rfl, trivial⟩ ?_
 intro f1 s1 W1 hB1 g1 hg1
 have fB1 := hB1.f fB0
 have z1 := hB1.below.size
 obtain ⟨r1_0, br1_0⟩ := hB1.is 0
 have lr1_0 := hB1.lr 0 br1_0
 obtain ⟨r1_1, br1_1⟩ := hB1.is 1
 have lr1_1 := hB1.lr 1 br1_1
 have ne1_0_1 := hB1.nb 0 1
 refine hK1 _ _ ?_
 have k1_1 := kt hg1 1 k1
 have k1_2 := kt hg1 2 k2
 have k1_3 := kt hg1 3 r1_0
 have k1_6 := kt hg1 6 r1_1
 have k1_7 := kt hg1 7 (hB1.is 2)
 refine wp_seq_k fun K2 hK2 => ?_
 refine region_dk 7 [(13, 0), (14, 1), (15, 2), (12, 3), (16, 4), (17, 5), (8, 6), (9, 8)] [[], [], [0, 1], [0, 1, 2], [0, 1, 2, 3], [0, 1, 2, 3], [], [0, 1, 2, 3, 4, 6], [0, 1, 2, 3, 4, 5, 6, 7]] (rel [is (.agg #[.int .i64 ((nm : Int)), .slice (some ⟨bc, oc, none⟩) (2) (cc), .slice (sa) (ns) (sc)]),
   is (.slice (some ⟨bj, oj, none⟩) (nj) (cj)),
   is (.tuple #[.agg #[.int .i64 ((nm : Int)), .slice (some ⟨bc, oc, none⟩) (2) (cc), .slice (sa) (ns) (sc), .slice (some ⟨bj, oj, none⟩) (nj) (cj)], .int .i64 0]),
   is (.tuple #[.agg #[.int .i64 ((nm : Int)), .slice (some ⟨bc, oc, none⟩) (2) (cc), .slice (sa) (ns) (sc), .slice (some ⟨bj, oj, none⟩) (nj) (cj)], .int .i64 0]),
   is (.agg #[.int .i64 ((nm : Int)), .slice (some ⟨bc, oc, none⟩) (2) (cc), .slice (sa) (ns) (sc), .slice (some ⟨bj, oj, none⟩) (nj) (cj)]),
   is (.int .i64 0),
   bx 6 #[.int .i64 0, .slice (none) (0) (0), .slice (none) (0) (0), .slice (none) (0) (0)] 94])
  ⟨is_k, is_k, is_k, is_k, is_k, is_k, bx_k, trivial⟩
  ⟨fun f s W c d j l m a => opv rfl rfl (by simp [go_sem, a.e 3 k1_3, cb br1_0 c 0, cb br1_0 c 1, cb br1_0 c 2]) rfl,
  fun f s W c d j l m a => opv rfl rfl (by simp [go_sem, a.e 1 k1_1]) rfl,
  fun f s W c d j l m a => by have n := below_trans fB1 c; exact opc (args := #[.agg #[.int .i64 ((nm : Int)), .slice (some ⟨bc, oc, none⟩) (2) (cc), .slice (sa) (ns) (sc)], .slice (some ⟨bj, oj, none⟩) (nj) (cj)]) rfl rfl (by simp [go_sem, a.e 13 (d 0 rfl), a.e 14 (d 1 rfl)]) (fl_open nm ns nj CH x js bc oc cc bs os_ sc bj oj cj sa adc kpc adj kpj W hF (hM.below n)),
  fun f s W c d j l m a => opv rfl rfl (by simp [go_sem, a.e 15 (d 2 rfl)]) rfl,
  fun f s W c d j l m a => opv rfl rfl (by simp [go_sem, a.e 12 (d 3 rfl)]) rfl,
  fun f s W c d j l m a => opv rfl rfl (by simp [go_sem, a.e 12 (d 3 rfl)]) rfl,
  fun f s W c d j l m a => opb rfl rfl (by simp [go_sem]), trivial⟩ ?_
 intro f2 s2 W2 hB2 g2 hg2
 have fB2 := hB2.f fB1
 have z2 := hB2.below.size
 have b2_0 := hB2.b br1_0
 have b2_1 := hB2.b br1_1
 obtain ⟨r2_6, br2_6⟩ := hB2.is 6
 have lr2_6 := hB2.lr 6 br2_6
 have k2_1 := kt hg2 1 k1_1
 have k2_2 := kt hg2 2 k1_2
 have k2_6 := kt hg2 6 k1_6
 have k2_7 := kt hg2 7 k1_7
 have k2_16 := kt hg2 16 (hB2.is 4)
 have k2_17 := kt hg2 17 (hB2.is 5)
 have k2_8 := kt hg2 8 r2_6
 obtain ⟨W3, hW3⟩ : ∃ W', W' = W2.setRow (s2 6) #[.int .i64 ((nm : Int)), .slice (some ⟨bc, oc, none⟩) (2) (cc), .slice (sa) (ns) (sc), .slice (some ⟨bj, oj, none⟩) (nj) (cj)] := ⟨_, rfl⟩
 refine tail_skip (o := _) rfl ⟨rfl, rfl⟩ (run_seg hW3 (fr_ev k2_8) (fr_ev k2_16) br2_6 rfl rfl rfl rfl) ?_
 obtain ⟨fB3, nb3, ot3, z3⟩ := seg_facts hW3 fB2 br2_6 (by omega)
 clear hW3
 have b3_0 := ot3 _ _ (by omega) b2_0
 have b3_1 := ot3 _ _ (by omega) b2_1
 refine tail_value (o := _) rfl rfl rfl (v := .int .i64 0) (by simp [go_sem, frv 43 k2_17]) ?_
 generalize hg4 : upd g2 9 (.int .i64 0) = g4
 have k4_1 := ku hg4 1 k2_1
 have k4_2 := ku hg4 2 k2_2
 have k4_6 := ku hg4 6 k2_6
 have k4_7 := ku hg4 7 k2_7
 have k4_8 := ku hg4 8 k2_8
 have k4_9 := kt hg4 9 (upd_same _ _ _)
 refine wpOps_end ?_
 refine hK2 _ _ ?_
 refine wp_seq_k fun K3 hK3 => ?_
 refine wp_seq_k fun K4 hK4 => ?_
 refine region_dk 2 [(18, 0), (19, 1)] [[], [0]] (rel [is (.int .i64 0),
   is (.bool false)])
  ⟨is_k, is_k, trivial⟩
  ⟨fun f s W c d j l m a => opv rfl rfl (by simp [go_sem, a.e 9 k4_9]) rfl,
  fun f s W c d j l m a => opv rfl rfl (by simp [go_sem, a.e 18 (d 0 rfl)]) rfl, trivial⟩ ?_
 intro f5 s5 W5 hB5 g5 hg5
 have fB5 := hB5.f fB3
 have z5 := hB5.below.size
 have b5_0 := hB5.b b3_0
 have b5_1 := hB5.b b3_1
 have b5_2 := hB5.b nb3
 refine hK4 _ _ ?_
 have k5_1 := kt hg5 1 k4_1
 have k5_2 := kt hg5 2 k4_2
 have k5_6 := kt hg5 6 k4_6
 have k5_7 := kt hg5 7 k4_7
 have k5_8 := kt hg5 8 k4_8
 have k5_9 := kt hg5 9 k4_9
 have k5_19 := kt hg5 19 (hB5.is 1)
 refine wp_cond_false ((fr_eval rfl).trans k5_19) ?_
 refine wp_skip ?_
 refine hK3 _ _ ?_
 refine wp_seq_k fun K6 hK6 => ?_
 refine wp_seq_k fun K7 hK7 => ?_
 refine region_dk 5 [(22, 0), (23, 1), (24, 2), (25, 3), (26, 4)] [[], [0], [0, 1], [0, 1, 2], []] (rel [is (.slice (ao) (no) (co)),
   ab fun v W => VlV 0 ao no co v W,
   ab fun v W => IsRng nj v W,
   is (.int .i64 ((nj : Int))),
   is (.int .i64 0)])
  ⟨is_k, ab_k fun v W W' hb h => (VlV.below h hb), ab_k fun v W W' hb h => (IsRng.below h hb), is_k, is_k, trivial⟩
  ⟨fun f s W c d j l m a => opv rfl rfl (by simp [go_sem, a.e 2 k5_2]) rfl,
  fun f s W c d j l m a => opDo_call rfl rfl (by simp [go_sem, a.e 22 (d 0 rfl)]) (values_fn ao no co W) ((fun e W' h => by obtain ⟨v, e1, ⟨b_, e2, h1, -⟩, h2⟩ := h; exact ⟨_, e1, h2, ⟨b_, e2, h1, Nat.zero_le _⟩⟩)),
  fun f s W c d j l m a => by obtain ⟨bw1', d1, q2', -⟩ := (d 1 rfl); have n := below_trans fB5 c; exact opDo_call (args := #[.func (.func 99) #[] #[.pointer (some ⟨bw1', 0, none⟩)]]) rfl rfl (by simp [go_sem, a.e 23 d1]) (sorted_vals ao no co xs _ W (hX.below n (Nat.le_refl _)) (by omega) hx0_ q2') ((fun e W' h => by obtain ⟨g_, c_, e1, h1, h3, h2⟩ := h; rw [hsort, hxl_] at h1; rw [hxl_] at e1; exact ⟨_, e1, h2, ⟨g_, c_, rfl, h1⟩⟩)),
  fun f s W c d j l m a => by obtain ⟨g3', c4', d2, q5'⟩ := (d 2 rfl); exact opv rfl rfl (by simp [go_sem, a.e 24 d2]) rfl,
  fun f s W c d j l m a => opv rfl rfl (by simp [go_sem]) rfl, trivial⟩ ?_
 intro f6 s6 W6 hB6 g6 hg6
 have fB6 := hB6.f fB5
 have z6 := hB6.below.size
 have b6_0 := hB6.b b5_0
 have b6_1 := hB6.b b5_1
 have b6_2 := hB6.b b5_2
 obtain ⟨g6', c7', r6_2, q8'⟩ := hB6.is 2
 refine hK7 _ _ ?_
 have k6_1 := kt hg6 1 k5_1
 have k6_2 := kt hg6 2 k5_2
 have k6_6 := kt hg6 6 k5_6
 have k6_7 := kt hg6 7 k5_7
 have k6_8 := kt hg6 8 k5_8
 have k6_24 := kt hg6 24 r6_2
 have k6_25 := kt hg6 25 (hB6.is 3)
 have k6_26 := kt hg6 26 (hB6.is 4)
 refine wp_block ?_
 refine wp_loop_n (fun m_ a_ W_ => ∃ g_ : Nat → Value, a_ = fr 43 g_ ∧ (∃ k : Nat, m_ = nj - k ∧ g_ 1 = .slice (some ⟨bj, oj, none⟩) (nj) (cj) ∧ g_ 2 = .slice (ao) (no) (co) ∧ g_ 6 = .pointer (some ⟨(s1 1), 0, none⟩) ∧ g_ 7 = .int .i64 0 ∧ g_ 8 = .pointer (some ⟨(s2 6), 0, none⟩) ∧ g_ 24 = .slice (some ⟨g6', 0, none⟩) (nj) (c7') ∧ g_ 25 = .int .i64 ((nj : Int)) ∧ g_ 26 = .int .i64 ((k : Int)) ∧ Below w.heap.size w W_ ∧ W6.heap.size ≤ W_.heap.size ∧ W_.heap[(s1 0)]? = some (.cells #[.int .i64 ((nm : Int)), .slice (some ⟨bc, oc, none⟩) (2) (cc), .slice (sa) (ns) (sc)] 29 (0, 0)) ∧ W_.heap[(s1 1)]? = some (.cells #[.int .i64 0, .slice (none) (0) (0), .slice (none) (0) (0), .slice (none) (0) (0)] 94 (0, 0)) ∧ W_.heap[(s2 6)]? = some (.cells #[.int .i64 ((nm : Int)), .slice (some ⟨bc, oc, none⟩) (2) (cc), .slice (sa) (ns) (sc), .slice (some ⟨bj, oj, none⟩) (nj) (cj)] 94 (0, 0)) ∧ Ii W_ (some ⟨g6', 0, none⟩) nj c7' ((List.range nj).map (fun i : Nat => (i : Int))) ∧ (k ≤ nj))) ⟨_, g6, rfl, 0, rfl, k6_1, k6_2, k6_6, k6_7, k6_8, k6_24, k6_25, k6_26.trans (by rfl), fB6, Nat.le_refl _, b6_0, b6_1, b6_2, q8', (by omega)⟩ ?_
 rintro _ _ W_9 ⟨g_9, rfl, k, rfl, k_9_1, k_9_2, k_9_6, k_9_7, k_9_8, k_9_24, k_9_25, k_9_26, fB_9, z_9, b_9_0, b_9_1, b_9_2, q10', lk0⟩
 refine wp_seq_k fun K8 hK8 => ?_
 refine region_dk 1 [(27, 0)] [[]] (rel [is (.bool (decide ((k : Int) < (nj : Int))))])
  ⟨is_k, trivial⟩
  ⟨fun f s W c d j l m a => opv rfl rfl (by simp [go_sem, a.e 26 k_9_26, a.e 25 k_9_25]) rfl, trivial⟩ ?_
 intro f7 s7 W7 hB7 g7 hg7
 have fB7 := hB7.f fB_9
 have z7 := hB7.below.size
 have b7_0 := hB7.b b_9_0
 have b7_1 := hB7.b b_9_1
 have b7_2 := hB7.b b_9_2
 have q11' := (q10'.bw hB7)
 refine hK8 _ _ ?_
 have k7_1 := kt hg7 1 k_9_1
 have k7_2 := kt hg7 2 k_9_2
 have k7_6 := kt hg7 6 k_9_6
 have k7_7 := kt hg7 7 k_9_7
 have k7_8 := kt hg7 8 k_9_8
 have k7_24 := kt hg7 24 k_9_24
 have k7_25 := kt hg7 25 k_9_25
 have k7_26 := kt hg7 26 k_9_26
 have k7_27 := kt hg7 27 (hB7.is 0)
 refine wp_seq_k fun K9 hK9 => ?_
 refine wp_cond_split (t := decide ((k : Int) < (nj : Int))) ((fr_eval rfl).trans k7_27) (fun hc10 => ?_) (fun hc10 => ?_)
 ·
  have hc10' := hc10; try simp only [ba] at hc10'
  have hkn : k < nj := by omega
  refine wp_skip ?_
  refine hK9 _ _ ?_
  refine wp_seq_k fun K11 hK11 => ?_
  refine wp_block ?_
  refine wp_seq_k fun K12 hK12 => ?_
  refine region_dk 5 [(28, 0), (29, 1), (30, 2), (10, 3), (11, 4)] [[], [], [1], [0, 1, 2], [0, 1, 2, 3]] (rel [is (.int .i64 ((k : Int))),
   is (.pointer (some ⟨g6', 0 + k, none⟩)),
   is (.int .i64 ((k : Int))),
   is (.int .i64 ((k : Int))),
   is (.int .i64 ((k : Int)))])
   ⟨is_k, is_k, is_k, is_k, is_k, trivial⟩
   ⟨fun f s W c d j l m a => opv rfl rfl (by simp [go_sem, a.e 26 k7_26]) rfl,
  fun f s W c d j l m a => by have li_ := Nat.not_le.2 (show k < nj by omega); have li2_ : (k : Int) < (nj : Int) := (by omega); exact opv rfl rfl (by simp [go_sem, a.e 24 k7_24, a.e 26 k7_26, li_, li2_]) rfl,
  fun f s W c d j l m a => by have cu_ := rng_at (q11'.below c (Nat.le_refl _)) (show k < nj by omega); rw [Nat.zero_add] at cu_; exact opv rfl rfl (by simp [go_sem, a.e 29 (d 1 rfl), cu_]) rfl,
  fun f s W c d j l m a => opv rfl rfl (by simp [go_sem, a.e 28 (d 0 rfl)]) rfl,
  fun f s W c d j l m a => opv rfl rfl (by simp [go_sem, a.e 30 (d 2 rfl)]) rfl, trivial⟩ ?_
  intro f8 s8 W8 hB8 g8 hg8
  have fB8 := hB8.f fB7
  have z8 := hB8.below.size
  have b8_0 := hB8.b b7_0
  have b8_1 := hB8.b b7_1
  have b8_2 := hB8.b b7_2
  have q12' := (q11'.bw hB8)
  refine hK12 _ _ ?_
  have k8_1 := kt hg8 1 k7_1
  have k8_2 := kt hg8 2 k7_2
  have k8_6 := kt hg8 6 k7_6
  have k8_7 := kt hg8 7 k7_7
  have k8_8 := kt hg8 8 k7_8
  have k8_24 := kt hg8 24 k7_24
  have k8_25 := kt hg8 25 k7_25
  have k8_26 := kt hg8 26 k7_26
  have k8_10 := kt hg8 10 (hB8.is 3)
  have k8_11 := kt hg8 11 (hB8.is 4)
  refine wp_seq_k fun K13 hK13 => ?_
  refine region_dk 3 [(31, 0), (32, 1), (33, 2)] [[], [], [0, 1]] (rel [is (.int .i64 ((k : Int))),
   is (.int .i64 ((k : Int))),
   is (.bool false)])
   ⟨is_k, is_k, is_k, trivial⟩
   ⟨fun f s W c d j l m a => opv rfl rfl (by simp [go_sem, a.e 11 k8_11]) rfl,
  fun f s W c d j l m a => opv rfl rfl (by simp [go_sem, a.e 10 k8_10]) rfl,
  fun f s W c d j l m a => opv rfl rfl (by simp [go_sem, a.e 31 (d 0 rfl), a.e 32 (d 1 rfl)]) rfl, trivial⟩ ?_
  intro f9 s9 W9 hB9 g9 hg9
  have fB9 := hB9.f fB8
  have z9 := hB9.below.size
  have b9_0 := hB9.b b8_0
  have b9_1 := hB9.b b8_1
  have b9_2 := hB9.b b8_2
  have q13' := (q12'.bw hB9)
  refine hK13 _ _ ?_
  have k9_1 := kt hg9 1 k8_1
  have k9_2 := kt hg9 2 k8_2
  have k9_6 := kt hg9 6 k8_6
  have k9_7 := kt hg9 7 k8_7
  have k9_8 := kt hg9 8 k8_8
  have k9_24 := kt hg9 24 k8_24
  have k9_25 := kt hg9 25 k8_25
  have k9_26 := kt hg9 26 k8_26
  have k9_33 := kt hg9 33 (hB9.is 2)
  refine wp_cond_false ((fr_eval rfl).trans k9_33) ?_
  refine wp_skip ?_
  refine inBlock_normal ?_
  refine hK11 _ _ ?_
  refine region_dk 2 [(35, 0), (26, 1)] [[], [0]] (rel [is (.int .i64 ((k : Int) + 1)),
   is (.int .i64 ((k : Int) + 1))])
   ⟨is_k, is_k, trivial⟩
   ⟨fun f s W c d j l m a => opv rfl rfl (by simp [go_sem, a.e 26 ((l 1 26 rfl rfl).trans k9_26), IntWalk.i64_in ((k : Int) + 1) (by omega)]) rfl,
  fun f s W c d j l m a => opv rfl rfl (by simp [go_sem, a.e 35 (d 0 rfl)]) rfl, trivial⟩ ?_
  intro f10 s10 W10 hB10 g10 hg10
  have fB10 := hB10.f fB9
  have z10 := hB10.below.size
  have b10_0 := hB10.b b9_0
  have b10_1 := hB10.b b9_1
  have b10_2 := hB10.b b9_2
  have q14' := (q13'.bw hB10)
  refine wpOps_end ?_
  have k10_1 := kt hg10 1 k9_1
  have k10_2 := kt hg10 2 k9_2
  have k10_6 := kt hg10 6 k9_6
  have k10_7 := kt hg10 7 k9_7
  have k10_8 := kt hg10 8 k9_8
  have k10_24 := kt hg10 24 k9_24
  have k10_25 := kt hg10 25 k9_25
  have k10_26 := kt hg10 26 (hB10.is 1)
  refine then_normal ?_
  exact ⟨_, by omega, g10, rfl, k + 1, rfl, k10_1, k10_2, k10_6, k10_7, k10_8, k10_24, k10_25, k10_26.trans (by go_num), fB10, (by omega), b10_0, b10_1, b10_2, q14', (by omega)⟩
 ·
  have hc10' := hc10; try simp only [ba] at hc10'
  refine wp_exit ?_
  refine then_exit ?_
  refine then_exit ?_
  refine inBlock_at ?_
  refine hK6 _ _ ?_
  refine wp_seq_k fun K15 hK15 => ?_
  refine wp_seq_k fun K16 hK16 => ?_
  refine region_dk 5 [(36, 0), (37, 1), (38, 2), (39, 3), (40, 4)] [[], [0], [], [2], [0, 1, 2, 3]] (rel [is (.slice (ao) (no) (co)),
   is (.int .i64 ((no : Int))),
   is (.slice (some ⟨bj, oj, none⟩) (nj) (cj)),
   is (.int .i64 ((nj : Int))),
   is (.bool false)])
   ⟨is_k, is_k, is_k, is_k, is_k, trivial⟩
   ⟨fun f s W c d j l m a => opv rfl rfl (by simp [go_sem, a.e 2 k7_2]) rfl,
  fun f s W c d j l m a => opv rfl rfl (by simp [go_sem, a.e 36 (d 0 rfl)]) rfl,
  fun f s W c d j l m a => opv rfl rfl (by simp [go_sem, a.e 1 k7_1]) rfl,
  fun f s W c d j l m a => opv rfl rfl (by simp [go_sem, a.e 38 (d 2 rfl)]) rfl,
  fun f s W c d j l m a => opv rfl rfl (by simp [go_sem, a.e 37 (d 1 rfl), a.e 39 (d 3 rfl), hno_]) rfl, trivial⟩ ?_
  intro f11 s11 W11 hB11 g11 hg11
  have fB11 := hB11.f fB7
  have z11 := hB11.below.size
  have b11_0 := hB11.b b7_0
  have b11_1 := hB11.b b7_1
  have b11_2 := hB11.b b7_2
  have q15' := (q11'.bw hB11)
  refine hK16 _ _ ?_
  have k11_6 := kt hg11 6 k7_6
  have k11_7 := kt hg11 7 k7_7
  have k11_8 := kt hg11 8 k7_8
  have k11_40 := kt hg11 40 (hB11.is 4)
  refine wp_cond_false ((fr_eval rfl).trans k11_40) ?_
  refine wp_skip ?_
  refine hK15 _ _ ?_
  refine wp_seq_k fun K18 hK18 => ?_
  refine region_dk 1 [(42, 0), (7, 2)] [[], [0], [0, 1]] (rel [is (.agg #[.int .i64 ((nm : Int)), .slice (some ⟨bc, oc, none⟩) (2) (cc), .slice (sa) (ns) (sc), .slice (some ⟨bj, oj, none⟩) (nj) (cj)])])
   ⟨is_k, trivial⟩
   ⟨fun f s W c d j l m a => opl rfl rfl rfl (a.v 8 k11_8) (blk_below b11_2 c) Try.underlying94 rfl (by kernel_rfl) rfl, trivial⟩ ?_
  intro f12 s12 W12 hB12 g12 hg12
  have fB12 := hB12.f fB11
  have z12 := hB12.below.size
  have b12_0 := hB12.b b11_0
  have b12_1 := hB12.b b11_1
  have b12_2 := hB12.b b11_2
  have q16' := (q15'.bw hB12)
  have k12_6 := kt hg12 6 k11_6
  have k12_42 := kt hg12 42 (hB12.is 0)
  obtain ⟨W13, hW13⟩ : ∃ W', W' = W12.setRow (s1 1) #[.int .i64 ((nm : Int)), .slice (some ⟨bc, oc, none⟩) (2) (cc), .slice (sa) (ns) (sc), .slice (some ⟨bj, oj, none⟩) (nj) (cj)] := ⟨_, rfl⟩
  refine tail_skip (o := _) rfl ⟨rfl, rfl⟩ (run_seg hW13 (fr_ev k12_6) (fr_ev k12_42) b12_1 rfl rfl rfl rfl) ?_
  obtain ⟨fB13, nb13, ot13, z13⟩ := seg_facts hW13 fB12 b12_1 (by omega)
  clear hW13
  have b13_0 := ot13 _ _ (by omega) b12_0
  have b13_2 := ot13 _ _ (by omega) b12_2
  refine tail_value (o := _) rfl rfl rfl (v := .int .i64 0) (by simp [go_sem]) ?_
  generalize hg14 : upd g12 7 (.int .i64 0) = g14
  have k14_6 := ku hg14 6 k12_6
  have k14_7 := kt hg14 7 (upd_same _ _ _)
  refine wpOps_end ?_
  refine hK18 _ _ ?_
  refine wp_ret ?_
  refine leave_gen (v := .tuple #[.agg #[.int .i64 ((nm : Int)), .slice (some ⟨bc, oc, none⟩) (2) (cc), .slice (sa) (ns) (sc), .slice (some ⟨bj, oj, none⟩) (nj) (cj)], .int .i64 0]) (.inr rfl) (by simp [results, Try.results24, go_sem, frv 43 k14_6, cl nb13 0, cl nb13 1, cl nb13 2, cl nb13 3, frv 43 k14_7]) ?_
  exact ⟨rfl, fB13⟩
end Go.Proofs.Ytcgccflcjejlhaa
