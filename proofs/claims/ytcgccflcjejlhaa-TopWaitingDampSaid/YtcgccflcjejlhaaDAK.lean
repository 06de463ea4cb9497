/- Part of the proof: what the claim leans on. -/
import Derived.Test.YtcgccflcjejlhaaDAE
set_option linter.unusedSimpArgs false
set_option linter.unusedVariables false
namespace Go.Proofs.Ytcgccflcjejlhaa
open Go.RowKit
set_option maxRecDepth 100000 in
set_option maxHeartbeats 400000 in
theorem free_0 (nm nj : Nat) (x : Fs) (bc oc cc bs os_ sc bj oj cj : Nat) (sa : Option Addr) (k at_ n_ : Int) (w : World) (gk : 0 ≤ k ∧ k ≤ 4) (ga : 0 ≤ at_ ∧ at_ ≤ 100000) (gn_ : 0 ≤ n_ ∧ n_ ≤ 2000) :
  Calls Try.prog 100 #[.agg #[.int .i64 ((nm : Int)), .slice (some ⟨bc, oc, none⟩) (2) (cc), .slice (sa) (0) (sc), .slice (some ⟨bj, oj, none⟩) (nj) (cj)], .int .i64 k, .int .i64 at_, .int .i64 n_] w (fun e w' => e = .returned (.int .i64 (freeF 0 x k at_ n_)) ∧ Below w.heap.size w w') := by
 refine calls_fr Try.func100 Try.ntmps100 rfl rfl fun g hg => ?_
 have k0 : g 0 = .agg #[.int .i64 ((nm : Int)), .slice (some ⟨bc, oc, none⟩) (2) (cc), .slice (sa) (0) (sc), .slice (some ⟨bj, oj, none⟩) (nj) (cj)] := hg 0
 have k1 : g 1 = .int .i64 k := hg 1
 have k2 : g 2 = .int .i64 at_ := hg 2
 have k3 : g 3 = .int .i64 n_ := hg 3
 clear hg
 have fB0 : Below w.heap.size w w := Below.refl _ _
 refine wp_seq_k fun K1 hK1 => ?_
 refine region_dk 2 [(4, 0), (8, 1)] [[], []] (rel [bx 0 #[.int .i64 ((nm : Int)), .slice (some ⟨bc, oc, none⟩) (2) (cc), .slice (sa) (0) (sc), .slice (some ⟨bj, oj, none⟩) (nj) (cj)] 94,
   is (.int .i64 0)])
  ⟨bx_k, is_k, trivial⟩
  ⟨fun f s W c d i j l a => opb rfl rfl (by simp [go_sem, a.e 0 k0]),
  fun f s W c d i j l a => opv rfl rfl (by simp [go_sem]) rfl, trivial⟩ ?_
 intro f1 s1 W1 hB1 g1 hg1
 have fB1 := hB1.f fB0
 have z1 := hB1.below.size
 obtain ⟨r1_0, br1_0⟩ := hB1.is 0
 have lr1_0 := hB1.lr 0 br1_0
 refine hK1 _ _ ?_
 have k1_1 := kt hg1 1 k1
 have k1_2 := kt hg1 2 k2
 have k1_3 := kt hg1 3 k3
 have k1_4 := kt hg1 4 r1_0
 have k1_8 := kt hg1 8 (hB1.is 1)
 refine wp_seq_k fun K2 hK2 => ?_
 refine wp_seq_k fun K3 hK3 => ?_
 refine region_dk 1 [(9, 0)] [[]] (rel [is (.bool true)])
  ⟨is_k, trivial⟩
  ⟨fun f s W c d i j l a => opv rfl rfl (by simp [go_sem]) rfl, trivial⟩ ?_
 intro f2 s2 W2 hB2 g2 hg2
 have fB2 := hB2.f fB1
 have z2 := hB2.below.size
 have b2_0 := hB2.b br1_0
 refine hK3 _ _ ?_
 have k2_1 := kt hg2 1 k1_1
 have k2_2 := kt hg2 2 k1_2
 have k2_3 := kt hg2 3 k1_3
 have k2_4 := kt hg2 4 k1_4
 have k2_8 := kt hg2 8 k1_8
 have k2_9 := kt hg2 9 (hB2.is 0)
 refine wp_block ?_
 refine wp_loop_rounds 3 ?_
 rw [rounds_succ]
 refine wp_seq_k fun K4 hK4 => ?_
 refine wp_seq_k fun K5 hK5 => ?_
 refine region_dk 1 [(12, 0)] [[]] (rel [is (.bool true)])
  ⟨is_k, trivial⟩
  ⟨fun f s W c d i j l a => opv rfl rfl (by simp [go_sem, a.e 9 k2_9]) rfl, trivial⟩ ?_
 intro f3 s3 W3 hB3 g3 hg3
 have fB3 := hB3.f fB2
 have z3 := hB3.below.size
 have b3_0 := hB3.b b2_0
 refine hK5 _ _ ?_
 have k3_1 := kt hg3 1 k2_1
 have k3_2 := kt hg3 2 k2_2
 have k3_3 := kt hg3 3 k2_3
 have k3_4 := kt hg3 4 k2_4
 have k3_8 := kt hg3 8 k2_8
 have k3_9 := kt hg3 9 k2_9
 have k3_12 := kt hg3 12 (hB3.is 0)
 refine wp_cond_true ((fr_eval rfl).trans k3_12) ?_
 refine wp_skip ?_
 refine hK4 _ _ ?_
 refine wp_block ?_
 refine wp_seq_k fun K7 hK7 => ?_
 refine region_dk 1 [(9, 0)] [[]] (rel [is (.bool false)])
  ⟨is_k, trivial⟩
  ⟨fun f s W c d i j l a => opv rfl rfl (by simp [go_sem]) rfl, trivial⟩ ?_
 intro f4 s4 W4 hB4 g4 hg4
 have fB4 := hB4.f fB3
 have z4 := hB4.below.size
 have b4_0 := hB4.b b3_0
 refine hK7 _ _ ?_
 have k4_1 := kt hg4 1 k3_1
 have k4_2 := kt hg4 2 k3_2
 have k4_3 := kt hg4 3 k3_3
 have k4_4 := kt hg4 4 k3_4
 have k4_8 := kt hg4 8 k3_8
 have k4_12 := kt hg4 12 k3_12
 have k4_9 := kt hg4 9 (hB4.is 0)
 refine wp_seq_k fun K8 hK8 => ?_
 refine region_dk 5 [(13, 0), (14, 1), (15, 2), (16, 3), (17, 4)] [[], [0], [0, 1], [0, 1, 2], []] (rel [is (.pointer (some ⟨(s1 0), 0, none⟩)),
   is (.pointer (some ⟨(s1 0), 2, none⟩)),
   is (.slice (sa) (0) (sc)),
   is (.int .i64 0),
   is (.int .i64 0)])
  ⟨is_k, is_k, is_k, is_k, is_k, trivial⟩
  ⟨fun f s W c d i j l a => opv rfl rfl (by simp [go_sem, a.e 4 k4_4]) rfl,
  fun f s W c d i j l a => opv rfl rfl (by simp [go_sem, a.e 13 (d 0 rfl)]) rfl,
  fun f s W c d i j l a => opv rfl rfl (by simp [go_sem, a.e 14 (d 1 rfl), cb b4_0 c 2]) rfl,
  fun f s W c d i j l a => opv rfl rfl (by simp [go_sem, a.e 15 (d 2 rfl)]) rfl,
  fun f s W c d i j l a => opv rfl rfl (by simp [go_sem]) rfl, trivial⟩ ?_
 intro f5 s5 W5 hB5 g5 hg5
 have fB5 := hB5.f fB4
 have z5 := hB5.below.size
 have b5_0 := hB5.b b4_0
 refine hK8 _ _ ?_
 have k5_1 := kt hg5 1 k4_1
 have k5_2 := kt hg5 2 k4_2
 have k5_3 := kt hg5 3 k4_3
 have k5_4 := kt hg5 4 k4_4
 have k5_8 := kt hg5 8 k4_8
 have k5_12 := kt hg5 12 k4_12
 have k5_9 := kt hg5 9 k4_9
 have k5_15 := kt hg5 15 (hB5.is 2)
 have k5_16 := kt hg5 16 (hB5.is 3)
 have k5_17 := kt hg5 17 (hB5.is 4)
 refine wp_block ?_
 refine wp_loop_rounds 2 ?_
 rw [rounds_succ]
 refine wp_seq_k fun K9 hK9 => ?_
 refine region_dk 1 [(18, 0)] [[]] (rel [is (.bool false)])
  ⟨is_k, trivial⟩
  ⟨fun f s W c d i j l a => opv rfl rfl (by simp [go_sem, a.e 17 k5_17, a.e 16 k5_16]) rfl, trivial⟩ ?_
 intro f6 s6 W6 hB6 g6 hg6
 have fB6 := hB6.f fB5
 have z6 := hB6.below.size
 have b6_0 := hB6.b b5_0
 refine hK9 _ _ ?_
 have k6_1 := kt hg6 1 k5_1
 have k6_2 := kt hg6 2 k5_2
 have k6_3 := kt hg6 3 k5_3
 have k6_4 := kt hg6 4 k5_4
 have k6_8 := kt hg6 8 k5_8
 have k6_12 := kt hg6 12 k5_12
 have k6_9 := kt hg6 9 k5_9
 have k6_15 := kt hg6 15 k5_15
 have k6_16 := kt hg6 16 k5_16
 have k6_17 := kt hg6 17 k5_17
 have k6_18 := kt hg6 18 (hB6.is 0)
 refine wp_seq_k fun K10 hK10 => ?_
 refine wp_cond_false ((fr_eval rfl).trans k6_18) ?_
 refine wp_exit ?_
 refine then_exit ?_
 refine then_exit ?_
 refine inBlock_at ?_
 refine inBlock_normal ?_
 refine then_normal ?_
 rw [rounds_succ]
 refine wp_seq_k fun K12 hK12 => ?_
 refine wp_seq_k fun K13 hK13 => ?_
 refine region_dk 1 [(12, 0)] [[]] (rel [is (.bool false)])
  ⟨is_k, trivial⟩
  ⟨fun f s W c d i j l a => opv rfl rfl (by simp [go_sem, a.e 9 k6_9]) rfl, trivial⟩ ?_
 intro f7 s7 W7 hB7 g7 hg7
 have fB7 := hB7.f fB6
 have z7 := hB7.below.size
 have b7_0 := hB7.b b6_0
 refine hK13 _ _ ?_
 have k7_1 := kt hg7 1 k6_1
 have k7_2 := kt hg7 2 k6_2
 have k7_3 := kt hg7 3 k6_3
 have k7_4 := kt hg7 4 k6_4
 have k7_8 := kt hg7 8 k6_8
 have k7_9 := kt hg7 9 k6_9
 have k7_15 := kt hg7 15 k6_15
 have k7_16 := kt hg7 16 k6_16
 have k7_17 := kt hg7 17 k6_17
 have k7_18 := kt hg7 18 k6_18
 have k7_12 := kt hg7 12 (hB7.is 0)
 refine wp_cond_false ((fr_eval rfl).trans k7_12) ?_
 refine wp_exit ?_
 refine then_exit ?_
 refine then_exit ?_
 refine inBlock_at ?_
 refine hK2 _ _ ?_
 refine wp_seq_k fun K15 hK15 => ?_
 refine region_dk 2 [(42, 0), (8, 1)] [[], [0]] (rel [is (.int .i64 at_),
   is (.int .i64 at_)])
  ⟨is_k, is_k, trivial⟩
  ⟨fun f s W c d i j l a => opv rfl rfl (by simp [go_sem, a.e 2 k7_2]) rfl,
  fun f s W c d i j l a => opv rfl rfl (by simp [go_sem, a.e 42 (d 0 rfl)]) rfl, trivial⟩ ?_
 intro f8 s8 W8 hB8 g8 hg8
 have fB8 := hB8.f fB7
 have z8 := hB8.below.size
 have b8_0 := hB8.b b7_0
 refine hK15 _ _ ?_
 have k8_8 := kt hg8 8 (hB8.is 1)
 refine wp_ret ?_
 refine leave_one (N := 43) (v := .int .i64 at_) (.inr rfl) Try.results100 rfl k8_8 ?_
 rw [show freeF 0 x k at_ n_ = at_ from if_neg (fun h => absurd h.1 (by decide))]
 exact ⟨rfl, fB8⟩
set_option maxRecDepth 100000 in
set_option maxHeartbeats 8000000 in
theorem free_1 (nm nj : Nat) (x : Fs) (bc oc cc bs os_ sc bj oj cj : Nat) (sa : Option Addr) (k at_ n_ : Int) (w : World) (gk : 0 ≤ k ∧ k ≤ 4) (ga : 0 ≤ at_ ∧ at_ ≤ 100000) (gn_ : 0 ≤ n_ ∧ n_ ≤ 2000) (hS : StR w bs os_ 1 sa x) (gx : 0 ≤ x.t ∧ x.t ≤ 2000) :
  Calls Try.prog 100 #[.agg #[.int .i64 ((nm : Int)), .slice (some ⟨bc, oc, none⟩) (2) (cc), .slice (sa) (1) (sc), .slice (some ⟨bj, oj, none⟩) (nj) (cj)], .int .i64 k, .int .i64 at_, .int .i64 n_] w (fun e w' => e = .returned (.int .i64 (freeF 1 x k at_ n_)) ∧ Below w.heap.size w w') := by
 refine calls_fr Try.func100 Try.ntmps100 rfl rfl fun g hg => ?_
 have k0 : g 0 = .agg #[.int .i64 ((nm : Int)), .slice (some ⟨bc, oc, none⟩) (2) (cc), .slice (sa) (1) (sc), .slice (some ⟨bj, oj, none⟩) (nj) (cj)] := hg 0
 have k1 : g 1 = .int .i64 k := hg 1
 have k2 : g 2 = .int .i64 at_ := hg 2
 have k3 : g 3 = .int .i64 n_ := hg 3
 clear hg
 have fB0 : Below w.heap.size w w := Below.refl _ _
 refine wp_seq_k fun K1 hK1 => ?_
 refine region_dk 2 [(4, 0), (8, 1)] [[], []] (rel [bx 0 #[.int .i64 ((nm : Int)), .slice (some ⟨bc, oc, none⟩) (2) (cc), .slice (sa) (1) (sc), .slice (some ⟨bj, oj, none⟩) (nj) (cj)] 94,
   is (.int .i64 0)])
  ⟨bx_k, is_k, trivial⟩
  ⟨fun f s W i j l n p a => opb rfl rfl (by simp [go_sem, a.e 0 k0]),
  fun f s W i j l n p a => opv rfl rfl (by simp [go_sem]) rfl, trivial⟩ ?_
 intro f1 s1 W1 hB1 g1 hg1
 have fB1 := hB1.f fB0
 have z1 := hB1.below.size
 obtain ⟨r1_0, br1_0⟩ := hB1.is 0
 have lr1_0 := hB1.lr 0 br1_0
 refine hK1 _ _ ?_
 have k1_1 := kt hg1 1 k1
 have k1_2 := kt hg1 2 k2
 have k1_3 := kt hg1 3 k3
 have k1_4 := kt hg1 4 r1_0
 have k1_8 := kt hg1 8 (hB1.is 1)
 refine wp_seq_k fun K2 hK2 => ?_
 refine wp_seq_k fun K3 hK3 => ?_
 refine region_dk 1 [(9, 0)] [[]] (rel [is (.bool true)])
  ⟨is_k, trivial⟩
  ⟨fun f s W i j l n p a => opv rfl rfl (by simp [go_sem]) rfl, trivial⟩ ?_
 intro f2 s2 W2 hB2 g2 hg2
 have fB2 := hB2.f fB1
 have z2 := hB2.below.size
 have b2_0 := hB2.b br1_0
 refine hK3 _ _ ?_
 have k2_1 := kt hg2 1 k1_1
 have k2_2 := kt hg2 2 k1_2
 have k2_3 := kt hg2 3 k1_3
 have k2_4 := kt hg2 4 k1_4
 have k2_8 := kt hg2 8 k1_8
 have k2_9 := kt hg2 9 (hB2.is 0)
 refine wp_block ?_
 refine wp_loop_rounds 3 ?_
 rw [rounds_succ]
 refine wp_seq_k fun K4 hK4 => ?_
 refine wp_seq_k fun K5 hK5 => ?_
 refine region_dk 1 [(12, 0)] [[]] (rel [is (.bool true)])
  ⟨is_k, trivial⟩
  ⟨fun f s W i j l n p a => opv rfl rfl (by simp [go_sem, a.e 9 k2_9]) rfl, trivial⟩ ?_
 intro f3 s3 W3 hB3 g3 hg3
 have fB3 := hB3.f fB2
 have z3 := hB3.below.size
 have b3_0 := hB3.b b2_0
 refine hK5 _ _ ?_
 have k3_1 := kt hg3 1 k2_1
 have k3_2 := kt hg3 2 k2_2
 have k3_3 := kt hg3 3 k2_3
 have k3_4 := kt hg3 4 k2_4
 have k3_8 := kt hg3 8 k2_8
 have k3_9 := kt hg3 9 k2_9
 have k3_12 := kt hg3 12 (hB3.is 0)
 refine wp_cond_true ((fr_eval rfl).trans k3_12) ?_
 refine wp_skip ?_
 refine hK4 _ _ ?_
 refine wp_block ?_
 refine wp_seq_k fun K7 hK7 => ?_
 refine region_dk 1 [(9, 0)] [[]] (rel [is (.bool false)])
  ⟨is_k, trivial⟩
  ⟨fun f s W i j l n p a => opv rfl rfl (by simp [go_sem]) rfl, trivial⟩ ?_
 intro f4 s4 W4 hB4 g4 hg4
 have fB4 := hB4.f fB3
 have z4 := hB4.below.size
 have b4_0 := hB4.b b3_0
 refine hK7 _ _ ?_
 have k4_1 := kt hg4 1 k3_1
 have k4_2 := kt hg4 2 k3_2
 have k4_3 := kt hg4 3 k3_3
 have k4_4 := kt hg4 4 k3_4
 have k4_8 := kt hg4 8 k3_8
 have k4_12 := kt hg4 12 k3_12
 have k4_9 := kt hg4 9 (hB4.is 0)
 refine wp_seq_k fun K8 hK8 => ?_
 refine region_dk 5 [(13, 0), (14, 1), (15, 2), (16, 3), (17, 4)] [[], [0], [0, 1], [0, 1, 2], []] (rel [is (.pointer (some ⟨(s1 0), 0, none⟩)),
   is (.pointer (some ⟨(s1 0), 2, none⟩)),
   is (.slice (sa) (1) (sc)),
   is (.int .i64 1),
   is (.int .i64 0)])
  ⟨is_k, is_k, is_k, is_k, is_k, trivial⟩
  ⟨fun f s W i j l n p a => opv rfl rfl (by simp [go_sem, a.e 4 k4_4]) rfl,
  fun f s W i j l n p a => opv rfl rfl (by simp [go_sem, a.e 13 (j 0 rfl)]) rfl,
  fun f s W i j l n p a => opv rfl rfl (by simp [go_sem, a.e 14 (j 1 rfl), cb b4_0 i 2]) rfl,
  fun f s W i j l n p a => opv rfl rfl (by simp [go_sem, a.e 15 (j 2 rfl)]) rfl,
  fun f s W i j l n p a => opv rfl rfl (by simp [go_sem]) rfl, trivial⟩ ?_
 intro f5 s5 W5 hB5 g5 hg5
 have fB5 := hB5.f fB4
 have z5 := hB5.below.size
 have b5_0 := hB5.b b4_0
 refine hK8 _ _ ?_
 have k5_1 := kt hg5 1 k4_1
 have k5_2 := kt hg5 2 k4_2
 have k5_3 := kt hg5 3 k4_3
 have k5_4 := kt hg5 4 k4_4
 have k5_8 := kt hg5 8 k4_8
 have k5_12 := kt hg5 12 k4_12
 have k5_9 := kt hg5 9 k4_9
 have k5_15 := kt hg5 15 (hB5.is 2)
 have k5_16 := kt hg5 16 (hB5.is 3)
 have k5_17 := kt hg5 17 (hB5.is 4)
 refine wp_block ?_
 refine wp_loop_rounds 2 ?_
 rw [rounds_succ]
 refine wp_seq_k fun K9 hK9 => ?_
 refine region_dk 1 [(18, 0)] [[]] (rel [is (.bool true)])
  ⟨is_k, trivial⟩
  ⟨fun f s W i j l n p a => opv rfl rfl (by simp [go_sem, a.e 17 k5_17, a.e 16 k5_16]) rfl, trivial⟩ ?_
 intro f6 s6 W6 hB6 g6 hg6
 have fB6 := hB6.f fB5
 have z6 := hB6.below.size
 have b6_0 := hB6.b b5_0
 refine hK9 _ _ ?_
 have k6_1 := kt hg6 1 k5_1
 have k6_2 := kt hg6 2 k5_2
 have k6_3 := kt hg6 3 k5_3
 have k6_4 := kt hg6 4 k5_4
 have k6_8 := kt hg6 8 k5_8
 have k6_12 := kt hg6 12 k5_12
 have k6_9 := kt hg6 9 k5_9
 have k6_15 := kt hg6 15 k5_15
 have k6_16 := kt hg6 16 k5_16
 have k6_17 := kt hg6 17 k5_17
 have k6_18 := kt hg6 18 (hB6.is 0)
 refine wp_seq_k fun K10 hK10 => ?_
 refine wp_cond_true ((fr_eval rfl).trans k6_18) ?_
 refine wp_skip ?_
 refine hK10 _ _ ?_
 refine wp_seq_k fun K12 hK12 => ?_
 refine wp_block ?_
 refine wp_seq_k fun K13 hK13 => ?_
 refine region_dk 3 [(19, 0), (20, 1), (11, 2)] [[], [0], [], [0, 1, 2]] (rel [is (.pointer (some ⟨bs, os_, none⟩)),
   is (.agg #[.int .i64 x.m, .int .i64 x.f, .int .i64 x.t]),
   bx 2 #[.int .i64 0, .int .i64 0, .int .i64 0] 34])
  ⟨is_k, is_k, bx_k, trivial⟩
  ⟨fun f s W i j l n p a => by have hab := (hS (by decide)).1; exact opv rfl rfl (by simp [go_sem, a.e 15 k6_15, a.e 17 k6_17, hab]) rfl,
  fun f s W i j l n p a => by have q := below_trans fB6 i; obtain ⟨-, -, cu0_, cu1_, cu2_⟩ := (hS.below q) (by decide); exact opv rfl rfl (by simp [go_sem, a.e 19 (j 0 rfl), cu0_, cu1_, cu2_]) rfl,
  fun f s W i j l n p a => opb rfl rfl (by simp [go_sem]), trivial⟩ ?_
 intro f7 s7 W7 hB7 g7 hg7
 have fB7 := hB7.f fB6
 have z7 := hB7.below.size
 have b7_0 := hB7.b b6_0
 obtain ⟨r7_2, br7_2⟩ := hB7.is 2
 have lr7_2 := hB7.lr 2 br7_2
 have k7_1 := kt hg7 1 k6_1
 have k7_2 := kt hg7 2 k6_2
 have k7_3 := kt hg7 3 k6_3
 have k7_4 := kt hg7 4 k6_4
 have k7_8 := kt hg7 8 k6_8
 have k7_12 := kt hg7 12 k6_12
 have k7_9 := kt hg7 9 k6_9
 have k7_15 := kt hg7 15 k6_15
 have k7_16 := kt hg7 16 k6_16
 have k7_17 := kt hg7 17 k6_17
 have k7_18 := kt hg7 18 k6_18
 have k7_20 := kt hg7 20 (hB7.is 1)
 have k7_11 := kt hg7 11 r7_2
 obtain ⟨W8, hW8⟩ : ∃ W', W' = W7.setRow (s7 2) #[.int .i64 x.m, .int .i64 x.f, .int .i64 x.t] := ⟨_, rfl⟩
 refine tail_skip (o := _) rfl ⟨rfl, rfl⟩ (run_seg hW8 (fr_ev k7_11) (fr_ev k7_20) br7_2 rfl rfl rfl rfl) ?_
 obtain ⟨fB8, nb8, ot8, z8⟩ := seg_facts hW8 fB7 br7_2 (by omega)
 clear hW8
 have b8_0 := ot8 _ _ (by omega) b7_0
 refine wpOps_end ?_
 refine hK13 _ _ ?_
 refine wp_seq_k fun K14 hK14 => ?_
 refine region_dk 18 [(21, 0), (22, 1), (23, 2), (24, 3), (25, 4), (26, 5), (27, 6), (28, 7), (29, 8), (30, 9), (31, 10), (32, 11), (33, 12), (34, 13), (35, 14), (36, 15), (37, 16), (38, 17)] [[], [0], [], [0, 1, 2], [0, 1, 2, 3], [0, 1, 2, 3, 4], [0, 1, 2, 3, 4], [0, 1, 2, 3, 4, 6], [0, 1, 2, 3, 4, 5, 6, 7], [0, 1, 2, 3, 4, 5, 6, 7, 8], [0, 1, 2, 3, 4, 5, 6, 7, 8, 9], [0, 1, 2, 3, 4, 5, 6, 7, 8, 9, 10], [0, 1, 2, 3, 4, 5, 6, 7, 8, 9, 10, 11], [0, 1, 2, 3, 4, 5, 6, 7, 8, 9, 10], [0, 1, 2, 3, 4, 5, 6, 7, 8, 9, 10], [0, 1, 2, 3, 4, 5, 6, 7, 8, 9, 10, 13, 14], [0, 1, 2, 3, 4, 5, 6, 7, 8, 9, 10, 11, 12, 13, 14, 15], [0, 1, 2, 3, 4, 5, 6, 7, 8, 9, 10, 11, 12, 13, 14, 15, 16]] (rel [is (.pointer (some ⟨(s7 2), 0, none⟩)),
   is (.int .i64 x.m),
   is (.int .i64 k),
   is (.bool (x.m == k)),
   is (.bool (x.m == k)),
   gd (x.m == k) true (is (.int .i64 at_)),
   gd (x.m == k) true (is (.pointer (some ⟨(s7 2), 2, none⟩))),
   gd (x.m == k) true (is (.int .i64 x.t)),
   gd (x.m == k) true (is (.bool (decide (at_ < x.t)))),
   is (.bool ((x.m == k) && (decide (at_ < x.t)))),
   is (.bool ((x.m == k) && (decide (at_ < x.t)))),
   gd ((x.m == k) && (decide (at_ < x.t))) true (is (.pointer (some ⟨(s7 2), 1, none⟩))),
   gd ((x.m == k) && (decide (at_ < x.t))) true (is (.int .i64 x.f)),
   gd ((x.m == k) && (decide (at_ < x.t))) true (is (.int .i64 at_)),
   gd ((x.m == k) && (decide (at_ < x.t))) true (is (.int .i64 n_)),
   gd ((x.m == k) && (decide (at_ < x.t))) true (is (.int .i64 (at_ + n_))),
   gd ((x.m == k) && (decide (at_ < x.t))) true (is (.bool (decide (x.f < (at_ + n_))))),
   is (.bool (((x.m == k) && (decide (at_ < x.t))) && (decide (x.f < (at_ + n_)))))])
  ⟨is_k, is_k, is_k, is_k, is_k, gd_k (is_k), gd_k (is_k), gd_k (is_k), gd_k (is_k), is_k, is_k, gd_k (is_k), gd_k (is_k), gd_k (is_k), gd_k (is_k), gd_k (is_k), gd_k (is_k), is_k, trivial⟩
  ⟨fun f s W i j l n p a => opv rfl rfl (by simp [go_sem, a.e 11 k7_11]) rfl,
  fun f s W i j l n p a => opv rfl rfl (by simp [go_sem, a.e 21 (j 0 rfl), cb nb8 i 0]) rfl,
  fun f s W i j l n p a => opv rfl rfl (by simp [go_sem, a.e 1 k7_1]) rfl,
  fun f s W i j l n p a => opv rfl rfl (by simp [go_sem, a.e 22 (j 1 rfl), a.e 23 (j 2 rfl)]) rfl,
  fun f s W i j l n p a => opv rfl rfl (by simp [go_sem, a.e 24 (j 3 rfl)]) rfl,
  fun f s W i j l n p a => gdo rfl rfl (a.says (d := 25) rfl rfl (j 4 rfl)) fun hgd0 => gv (by simp [go_sem, a.e 2 k7_2]) rfl,
  fun f s W i j l n p a => gdo rfl rfl (a.says (d := 25) rfl rfl (j 4 rfl)) fun hgd0 => gv (by simp [go_sem, a.e 11 k7_11]) rfl,
  fun f s W i j l n p a => gdo rfl rfl (a.says (d := 25) rfl rfl (j 4 rfl)) fun hgd0 => gv (by simp [go_sem, a.e 27 ((j 6 rfl).1 hgd0), cb nb8 i 2]) rfl,
  fun f s W i j l n p a => gdo rfl rfl (a.says (d := 25) rfl rfl (j 4 rfl)) fun hgd0 => gv (by simp [go_sem, a.e 26 ((j 5 rfl).1 hgd0), a.e 28 ((j 7 rfl).1 hgd0)]) rfl,
  fun f s W i j l n p a => opk (c := x.m == k) rfl rfl (fun hpk => by first | (simp [go_sem, hpk, a.e 25 (j 4 rfl)]; done) | (have hpk' := hpk; simp at hpk'; simp [go_sem, hpk', hpk, a.e 25 (j 4 rfl)]; done) | (have hpk' := of_decide_eq_false hpk; simp only [Int.ofNat_lt] at hpk'; simp [go_sem, hpk', hpk, a.e 25 (j 4 rfl)])) (fun hpk => by first | (simp [go_sem, hpk, a.e 25 (j 4 rfl), a.e 29 ((j 8 rfl).1 hpk)]; done) | (have hpk' := hpk; simp at hpk'; simp [go_sem, hpk', hpk, a.e 25 (j 4 rfl), a.e 29 ((j 8 rfl).1 hpk)]; done) | (have hpk' := of_decide_eq_false hpk; simp only [Int.ofNat_lt] at hpk'; simp [go_sem, hpk', hpk, a.e 25 (j 4 rfl), a.e 29 ((j 8 rfl).1 hpk)])),
  fun f s W i j l n p a => opv rfl rfl (by simp [go_sem, a.e 30 (j 9 rfl)]) rfl,
  fun f s W i j l n p a => gdo rfl rfl (a.says (d := 31) rfl rfl (j 10 rfl)) fun hgd0 => gv (by simp [go_sem, a.e 11 k7_11]) rfl,
  fun f s W i j l n p a => gdo rfl rfl (a.says (d := 31) rfl rfl (j 10 rfl)) fun hgd0 => gv (by simp [go_sem, a.e 32 ((j 11 rfl).1 hgd0), cb nb8 i 1]) rfl,
  fun f s W i j l n p a => gdo rfl rfl (a.says (d := 31) rfl rfl (j 10 rfl)) fun hgd0 => gv (by simp [go_sem, a.e 2 k7_2]) rfl,
  fun f s W i j l n p a => gdo rfl rfl (a.says (d := 31) rfl rfl (j 10 rfl)) fun hgd0 => gv (by simp [go_sem, a.e 3 k7_3]) rfl,
  fun f s W i j l n p a => gdo rfl rfl (a.says (d := 31) rfl rfl (j 10 rfl)) fun hgd0 => gv (by simp [go_sem, a.e 34 ((j 13 rfl).1 hgd0), a.e 35 ((j 14 rfl).1 hgd0), IntWalk.i64_in (at_ + n_) (by omega)]) rfl,
  fun f s W i j l n p a => gdo rfl rfl (a.says (d := 31) rfl rfl (j 10 rfl)) fun hgd0 => gv (by simp [go_sem, a.e 33 ((j 12 rfl).1 hgd0), a.e 36 ((j 15 rfl).1 hgd0)]) rfl,
  fun f s W i j l n p a => opk (c := (x.m == k) && (decide (at_ < x.t))) rfl rfl (fun hpk => by first | (simp [go_sem, hpk, a.e 31 (j 10 rfl)]; done) | (have hpk' := hpk; simp at hpk'; simp [go_sem, hpk', hpk, a.e 31 (j 10 rfl)]; done) | (have hpk' := of_decide_eq_false hpk; simp only [Int.ofNat_lt] at hpk'; simp [go_sem, hpk', hpk, a.e 31 (j 10 rfl)])) (fun hpk => by first | (simp [go_sem, hpk, a.e 31 (j 10 rfl), a.e 37 ((j 16 rfl).1 hpk)]; done) | (have hpk' := hpk; simp at hpk'; simp [go_sem, hpk', hpk, a.e 31 (j 10 rfl), a.e 37 ((j 16 rfl).1 hpk)]; done) | (have hpk' := of_decide_eq_false hpk; simp only [Int.ofNat_lt] at hpk'; simp [go_sem, hpk', hpk, a.e 31 (j 10 rfl), a.e 37 ((j 16 rfl).1 hpk)])), trivial⟩ ?_
 intro f9 s9 W9 hB9 g9 hg9
 have fB9 := hB9.f fB8
 have z9 := hB9.below.size
 have b9_0 := hB9.b b8_0
 have b9_1 := hB9.b nb8
 refine hK14 _ _ ?_
 have k9_1 := kt hg9 1 k7_1
 have k9_2 := kt hg9 2 k7_2
 have k9_3 := kt hg9 3 k7_3
 have k9_4 := kt hg9 4 k7_4
 have k9_8 := kt hg9 8 k7_8
 have k9_12 := kt hg9 12 k7_12
 have k9_9 := kt hg9 9 k7_9
 have k9_15 := kt hg9 15 k7_15
 have k9_16 := kt hg9 16 k7_16
 have k9_17 := kt hg9 17 k7_17
 have k9_18 := kt hg9 18 k7_18
 have k9_20 := kt hg9 20 k7_20
 have k9_11 := kt hg9 11 k7_11
 have k9_38 := kt hg9 38 (hB9.is 17)
 refine wp_cond_split (t := ((x.m == k) && (decide (at_ < x.t))) && (decide (x.f < (at_ + n_)))) ((fr_eval rfl).trans k9_38) (fun hc15 => ?_) (fun hc15 => ?_)
 ·
  have hc15' := hc15; try simp only [ba] at hc15'
  have hh_ : hitF x k at_ n_ = true := hc15
  refine region_dk 4 [(39, 0), (40, 1), (2, 2), (9, 3)] [[], [0], [0, 1], [0, 1, 2]] (rel [is (.pointer (some ⟨(s7 2), 2, none⟩)),
   is (.int .i64 x.t),
   is (.int .i64 x.t),
   is (.bool true)])
   ⟨is_k, is_k, is_k, is_k, trivial⟩
   ⟨fun f s W i j l n p a => opv rfl rfl (by simp [go_sem, a.e 11 k9_11]) rfl,
  fun f s W i j l n p a => opv rfl rfl (by simp [go_sem, a.e 39 (j 0 rfl), cb b9_1 i 2]) rfl,
  fun f s W i j l n p a => opv rfl rfl (by simp [go_sem, a.e 40 (j 1 rfl)]) rfl,
  fun f s W i j l n p a => opv rfl rfl (by simp [go_sem]) rfl, trivial⟩ ?_
  intro f10 s10 W10 hB10 g10 hg10
  have fB10 := hB10.f fB9
  have z10 := hB10.below.size
  have b10_0 := hB10.b b9_0
  have b10_1 := hB10.b b9_1
  refine wpOps_end ?_
  have k10_1 := kt hg10 1 k9_1
  have k10_3 := kt hg10 3 k9_3
  have k10_4 := kt hg10 4 k9_4
  have k10_8 := kt hg10 8 k9_8
  have k10_12 := kt hg10 12 k9_12
  have k10_15 := kt hg10 15 k9_15
  have k10_16 := kt hg10 16 k9_16
  have k10_17 := kt hg10 17 k9_17
  have k10_18 := kt hg10 18 k9_18
  have k10_20 := kt hg10 20 k9_20
  have k10_11 := kt hg10 11 k9_11
  have k10_38 := kt hg10 38 k9_38
  have k10_2 := kt hg10 2 (hB10.is 2)
  have k10_9 := kt hg10 9 (hB10.is 3)
  refine inBlock_normal ?_
  refine hK12 _ _ ?_
  refine region_dk 2 [(41, 0), (17, 1)] [[], [0]] (rel [is (.int .i64 1),
   is (.int .i64 1)])
   ⟨is_k, is_k, trivial⟩
   ⟨fun f s W i j l n p a => opv rfl rfl (by simp [go_sem, a.e 17 ((n 1 17 rfl rfl).trans k10_17), IntWalk.i64_in (1) (by omega)]) rfl,
  fun f s W i j l n p a => opv rfl rfl (by simp [go_sem, a.e 41 (j 0 rfl)]) rfl, trivial⟩ ?_
  intro f11 s11 W11 hB11 g11 hg11
  have fB11 := hB11.f fB10
  have z11 := hB11.below.size
  have b11_0 := hB11.b b10_0
  have b11_1 := hB11.b b10_1
  refine wpOps_end ?_
  have k11_1 := kt hg11 1 k10_1
  have k11_3 := kt hg11 3 k10_3
  have k11_4 := kt hg11 4 k10_4
  have k11_8 := kt hg11 8 k10_8
  have k11_12 := kt hg11 12 k10_12
  have k11_15 := kt hg11 15 k10_15
  have k11_16 := kt hg11 16 k10_16
  have k11_18 := kt hg11 18 k10_18
  have k11_20 := kt hg11 20 k10_20
  have k11_11 := kt hg11 11 k10_11
  have k11_38 := kt hg11 38 k10_38
  have k11_2 := kt hg11 2 k10_2
  have k11_9 := kt hg11 9 k10_9
  have k11_17 := kt hg11 17 (hB11.is 1)
  refine then_normal ?_
  rw [rounds_succ]
  refine wp_seq_k fun K16 hK16 => ?_
  refine region_dk 1 [(18, 0)] [[]] (rel [is (.bool false)])
   ⟨is_k, trivial⟩
   ⟨fun f s W i j l n p a => opv rfl rfl (by simp [go_sem, a.e 17 k11_17, a.e 16 k11_16]) rfl, trivial⟩ ?_
  intro f12 s12 W12 hB12 g12 hg12
  have fB12 := hB12.f fB11
  have z12 := hB12.below.size
  have b12_0 := hB12.b b11_0
  have b12_1 := hB12.b b11_1
  refine hK16 _ _ ?_
  have k12_1 := kt hg12 1 k11_1
  have k12_3 := kt hg12 3 k11_3
  have k12_4 := kt hg12 4 k11_4
  have k12_8 := kt hg12 8 k11_8
  have k12_12 := kt hg12 12 k11_12
  have k12_15 := kt hg12 15 k11_15
  have k12_16 := kt hg12 16 k11_16
  have k12_20 := kt hg12 20 k11_20
  have k12_11 := kt hg12 11 k11_11
  have k12_38 := kt hg12 38 k11_38
  have k12_2 := kt hg12 2 k11_2
  have k12_9 := kt hg12 9 k11_9
  have k12_17 := kt hg12 17 k11_17
  have k12_18 := kt hg12 18 (hB12.is 0)
  refine wp_seq_k fun K17 hK17 => ?_
  refine wp_cond_false ((fr_eval rfl).trans k12_18) ?_
  refine wp_exit ?_
  refine then_exit ?_
  refine then_exit ?_
  refine inBlock_at ?_
  refine inBlock_normal ?_
  refine then_normal ?_
  rw [rounds_succ]
  refine wp_seq_k fun K19 hK19 => ?_
  refine wp_seq_k fun K20 hK20 => ?_
  refine region_dk 1 [(12, 0)] [[]] (rel [is (.bool true)])
   ⟨is_k, trivial⟩
   ⟨fun f s W i j l n p a => opv rfl rfl (by simp [go_sem, a.e 9 k12_9]) rfl, trivial⟩ ?_
  intro f13 s13 W13 hB13 g13 hg13
  have fB13 := hB13.f fB12
  have z13 := hB13.below.size
  have b13_0 := hB13.b b12_0
  have b13_1 := hB13.b b12_1
  refine hK20 _ _ ?_
  have k13_1 := kt hg13 1 k12_1
  have k13_3 := kt hg13 3 k12_3
  have k13_4 := kt hg13 4 k12_4
  have k13_8 := kt hg13 8 k12_8
  have k13_15 := kt hg13 15 k12_15
  have k13_16 := kt hg13 16 k12_16
  have k13_20 := kt hg13 20 k12_20
  have k13_11 := kt hg13 11 k12_11
  have k13_38 := kt hg13 38 k12_38
  have k13_2 := kt hg13 2 k12_2
  have k13_9 := kt hg13 9 k12_9
  have k13_17 := kt hg13 17 k12_17
  have k13_18 := kt hg13 18 k12_18
  have k13_12 := kt hg13 12 (hB13.is 0)
  refine wp_cond_true ((fr_eval rfl).trans k13_12) ?_
  refine wp_skip ?_
  refine hK19 _ _ ?_
  refine wp_block ?_
  refine wp_seq_k fun K22 hK22 => ?_
  refine region_dk 1 [(9, 0)] [[]] (rel [is (.bool false)])
   ⟨is_k, trivial⟩
   ⟨fun f s W i j l n p a => opv rfl rfl (by simp [go_sem]) rfl, trivial⟩ ?_
  intro f14 s14 W14 hB14 g14 hg14
  have fB14 := hB14.f fB13
  have z14 := hB14.below.size
  have b14_0 := hB14.b b13_0
  have b14_1 := hB14.b b13_1
  refine hK22 _ _ ?_
  have k14_1 := kt hg14 1 k13_1
  have k14_3 := kt hg14 3 k13_3
  have k14_4 := kt hg14 4 k13_4
  have k14_8 := kt hg14 8 k13_8
  have k14_15 := kt hg14 15 k13_15
  have k14_16 := kt hg14 16 k13_16
  have k14_20 := kt hg14 20 k13_20
  have k14_11 := kt hg14 11 k13_11
  have k14_38 := kt hg14 38 k13_38
  have k14_2 := kt hg14 2 k13_2
  have k14_17 := kt hg14 17 k13_17
  have k14_18 := kt hg14 18 k13_18
  have k14_12 := kt hg14 12 k13_12
  have k14_9 := kt hg14 9 (hB14.is 0)
  refine wp_seq_k fun K23 hK23 => ?_
  refine region_dk 5 [(13, 0), (14, 1), (15, 2), (16, 3), (17, 4)] [[], [0], [0, 1], [0, 1, 2], []] (rel [is (.pointer (some ⟨(s1 0), 0, none⟩)),
   is (.pointer (some ⟨(s1 0), 2, none⟩)),
   is (.slice (sa) (1) (sc)),
   is (.int .i64 1),
   is (.int .i64 0)])
   ⟨is_k, is_k, is_k, is_k, is_k, trivial⟩
   ⟨fun f s W i j l n p a => opv rfl rfl (by simp [go_sem, a.e 4 k14_4]) rfl,
  fun f s W i j l n p a => opv rfl rfl (by simp [go_sem, a.e 13 (j 0 rfl)]) rfl,
  fun f s W i j l n p a => opv rfl rfl (by simp [go_sem, a.e 14 (j 1 rfl), cb b14_0 i 2]) rfl,
  fun f s W i j l n p a => opv rfl rfl (by simp [go_sem, a.e 15 (j 2 rfl)]) rfl,
  fun f s W i j l n p a => opv rfl rfl (by simp [go_sem]) rfl, trivial⟩ ?_
  intro f15 s15 W15 hB15 g15 hg15
  have fB15 := hB15.f fB14
  have z15 := hB15.below.size
  have b15_0 := hB15.b b14_0
  have b15_1 := hB15.b b14_1
  refine hK23 _ _ ?_
  have k15_1 := kt hg15 1 k14_1
  have k15_3 := kt hg15 3 k14_3
  have k15_4 := kt hg15 4 k14_4
  have k15_8 := kt hg15 8 k14_8
  have k15_20 := kt hg15 20 k14_20
  have k15_11 := kt hg15 11 k14_11
  have k15_38 := kt hg15 38 k14_38
  have k15_2 := kt hg15 2 k14_2
  have k15_18 := kt hg15 18 k14_18
  have k15_12 := kt hg15 12 k14_12
  have k15_9 := kt hg15 9 k14_9
  have k15_15 := kt hg15 15 (hB15.is 2)
  have k15_16 := kt hg15 16 (hB15.is 3)
  have k15_17 := kt hg15 17 (hB15.is 4)
  refine wp_block ?_
  refine wp_loop_rounds 2 ?_
  rw [rounds_succ]
  refine wp_seq_k fun K24 hK24 => ?_
  refine region_dk 1 [(18, 0)] [[]] (rel [is (.bool true)])
   ⟨is_k, trivial⟩
   ⟨fun f s W i j l n p a => opv rfl rfl (by simp [go_sem, a.e 17 k15_17, a.e 16 k15_16]) rfl, trivial⟩ ?_
  intro f16 s16 W16 hB16 g16 hg16
  have fB16 := hB16.f fB15
  have z16 := hB16.below.size
  have b16_0 := hB16.b b15_0
  have b16_1 := hB16.b b15_1
  refine hK24 _ _ ?_
  have k16_1 := kt hg16 1 k15_1
  have k16_3 := kt hg16 3 k15_3
  have k16_4 := kt hg16 4 k15_4
  have k16_8 := kt hg16 8 k15_8
  have k16_20 := kt hg16 20 k15_20
  have k16_11 := kt hg16 11 k15_11
  have k16_38 := kt hg16 38 k15_38
  have k16_2 := kt hg16 2 k15_2
  have k16_12 := kt hg16 12 k15_12
  have k16_9 := kt hg16 9 k15_9
  have k16_15 := kt hg16 15 k15_15
  have k16_16 := kt hg16 16 k15_16
  have k16_17 := kt hg16 17 k15_17
  have k16_18 := kt hg16 18 (hB16.is 0)
  refine wp_seq_k fun K25 hK25 => ?_
  refine wp_cond_true ((fr_eval rfl).trans k16_18) ?_
  refine wp_skip ?_
  refine hK25 _ _ ?_
  refine wp_seq_k fun K27 hK27 => ?_
  refine wp_block ?_
  refine wp_seq_k fun K28 hK28 => ?_
  refine region_dk 3 [(19, 0), (20, 1), (11, 2)] [[], [0], [], [0, 1, 2]] (rel [is (.pointer (some ⟨bs, os_, none⟩)),
   is (.agg #[.int .i64 x.m, .int .i64 x.f, .int .i64 x.t]),
   bx 2 #[.int .i64 0, .int .i64 0, .int .i64 0] 34])
   ⟨is_k, is_k, bx_k, trivial⟩
   ⟨fun f s W i j l n p a => by have hab := (hS (by decide)).1; exact opv rfl rfl (by simp [go_sem, a.e 15 k16_15, a.e 17 k16_17, hab]) rfl,
  fun f s W i j l n p a => by have q := below_trans fB16 i; obtain ⟨-, -, cu0_, cu1_, cu2_⟩ := (hS.below q) (by decide); exact opv rfl rfl (by simp [go_sem, a.e 19 (j 0 rfl), cu0_, cu1_, cu2_]) rfl,
  fun f s W i j l n p a => opb rfl rfl (by simp [go_sem]), trivial⟩ ?_
  intro f17 s17 W17 hB17 g17 hg17
  have fB17 := hB17.f fB16
  have z17 := hB17.below.size
  have b17_0 := hB17.b b16_0
  have b17_1 := hB17.b b16_1
  obtain ⟨r17_2, br17_2⟩ := hB17.is 2
  have lr17_2 := hB17.lr 2 br17_2
  have k17_1 := kt hg17 1 k16_1
  have k17_3 := kt hg17 3 k16_3
  have k17_4 := kt hg17 4 k16_4
  have k17_8 := kt hg17 8 k16_8
  have k17_38 := kt hg17 38 k16_38
  have k17_2 := kt hg17 2 k16_2
  have k17_12 := kt hg17 12 k16_12
  have k17_9 := kt hg17 9 k16_9
  have k17_15 := kt hg17 15 k16_15
  have k17_16 := kt hg17 16 k16_16
  have k17_17 := kt hg17 17 k16_17
  have k17_18 := kt hg17 18 k16_18
  have k17_20 := kt hg17 20 (hB17.is 1)
  have k17_11 := kt hg17 11 r17_2
  obtain ⟨W18, hW18⟩ : ∃ W', W' = W17.setRow (s17 2) #[.int .i64 x.m, .int .i64 x.f, .int .i64 x.t] := ⟨_, rfl⟩
  refine tail_skip (o := _) rfl ⟨rfl, rfl⟩ (run_seg hW18 (fr_ev k17_11) (fr_ev k17_20) br17_2 rfl rfl rfl rfl) ?_
  obtain ⟨fB18, nb18, ot18, z18⟩ := seg_facts hW18 fB17 br17_2 (by omega)
  clear hW18
  have b18_0 := ot18 _ _ (by omega) b17_0
  have b18_1 := ot18 _ _ (by omega) b17_1
  refine wpOps_end ?_
  refine hK28 _ _ ?_
  refine wp_seq_k fun K29 hK29 => ?_
  refine region_dk 18 [(21, 0), (22, 1), (23, 2), (24, 3), (25, 4), (26, 5), (27, 6), (28, 7), (29, 8), (30, 9), (31, 10), (32, 11), (33, 12), (34, 13), (35, 14), (36, 15), (37, 16), (38, 17)] [[], [0], [], [0, 1, 2], [0, 1, 2, 3], [0, 1, 2, 3, 4], [0, 1, 2, 3, 4], [0, 1, 2, 3, 4, 6], [0, 1, 2, 3, 4, 5, 6, 7], [0, 1, 2, 3, 4, 5, 6, 7, 8], [0, 1, 2, 3, 4, 5, 6, 7, 8, 9], [0, 1, 2, 3, 4, 5, 6, 7, 8, 9, 10], [0, 1, 2, 3, 4, 5, 6, 7, 8, 9, 10, 11], [0, 1, 2, 3, 4, 5, 6, 7, 8, 9, 10], [0, 1, 2, 3, 4, 5, 6, 7, 8, 9, 10], [0, 1, 2, 3, 4, 5, 6, 7, 8, 9, 10, 13, 14], [0, 1, 2, 3, 4, 5, 6, 7, 8, 9, 10, 11, 12, 13, 14, 15], [0, 1, 2, 3, 4, 5, 6, 7, 8, 9, 10, 11, 12, 13, 14, 15, 16]] (rel [is (.pointer (some ⟨(s17 2), 0, none⟩)),
   is (.int .i64 x.m),
   is (.int .i64 k),
   is (.bool (x.m == k)),
   is (.bool (x.m == k)),
   gd (x.m == k) true (is (.int .i64 x.t)),
   gd (x.m == k) true (is (.pointer (some ⟨(s17 2), 2, none⟩))),
   gd (x.m == k) true (is (.int .i64 x.t)),
   gd (x.m == k) true (is (.bool false)),
   is (.bool false),
   is (.bool false),
   gd (false) true (fun _ _ _ => True),
   gd (false) true (fun _ _ _ => True),
   gd (false) true (fun _ _ _ => True),
   gd (false) true (fun _ _ _ => True),
   gd (false) true (fun _ _ _ => True),
   gd (false) true (fun _ _ _ => True),
   is (.bool false)])
   ⟨is_k, is_k, is_k, is_k, is_k, gd_k (is_k), gd_k (is_k), gd_k (is_k), gd_k (is_k), is_k, is_k, gdt_k, gdt_k, gdt_k, gdt_k, gdt_k, gdt_k, is_k, trivial⟩
   ⟨fun f s W i j l n p a => opv rfl rfl (by simp [go_sem, a.e 11 k17_11]) rfl,
  fun f s W i j l n p a => opv rfl rfl (by simp [go_sem, a.e 21 (j 0 rfl), cb nb18 i 0]) rfl,
  fun f s W i j l n p a => opv rfl rfl (by simp [go_sem, a.e 1 k17_1]) rfl,
  fun f s W i j l n p a => opv rfl rfl (by simp [go_sem, a.e 22 (j 1 rfl), a.e 23 (j 2 rfl)]) rfl,
  fun f s W i j l n p a => opv rfl rfl (by simp [go_sem, a.e 24 (j 3 rfl)]) rfl,
  fun f s W i j l n p a => gdo rfl rfl (a.says (d := 25) rfl rfl (j 4 rfl)) fun hgd0 => gv (by simp [go_sem, a.e 2 k17_2]) rfl,
  fun f s W i j l n p a => gdo rfl rfl (a.says (d := 25) rfl rfl (j 4 rfl)) fun hgd0 => gv (by simp [go_sem, a.e 11 k17_11]) rfl,
  fun f s W i j l n p a => gdo rfl rfl (a.says (d := 25) rfl rfl (j 4 rfl)) fun hgd0 => gv (by simp [go_sem, a.e 27 ((j 6 rfl).1 hgd0), cb nb18 i 2]) rfl,
  fun f s W i j l n p a => gdo rfl rfl (a.says (d := 25) rfl rfl (j 4 rfl)) fun hgd0 => gv (by simp [go_sem, a.e 26 ((j 5 rfl).1 hgd0), a.e 28 ((j 7 rfl).1 hgd0), Int.lt_irrefl]) rfl,
  fun f s W i j l n p a => opk (c := x.m == k) rfl rfl (fun hpk => by first | (simp [go_sem, hpk, a.e 25 (j 4 rfl)]; done) | (have hpk' := hpk; simp at hpk'; simp [go_sem, hpk', hpk, a.e 25 (j 4 rfl)]; done) | (have hpk' := of_decide_eq_false hpk; simp only [Int.ofNat_lt] at hpk'; simp [go_sem, hpk', hpk, a.e 25 (j 4 rfl)])) (fun hpk => by first | (simp [go_sem, hpk, a.e 25 (j 4 rfl), a.e 29 ((j 8 rfl).1 hpk)]; done) | (have hpk' := hpk; simp at hpk'; simp [go_sem, hpk', hpk, a.e 25 (j 4 rfl), a.e 29 ((j 8 rfl).1 hpk)]; done) | (have hpk' := of_decide_eq_false hpk; simp only [Int.ofNat_lt] at hpk'; simp [go_sem, hpk', hpk, a.e 25 (j 4 rfl), a.e 29 ((j 8 rfl).1 hpk)])),
  fun f s W i j l n p a => opv rfl rfl (by simp [go_sem, a.e 30 (j 9 rfl)]) rfl,
  fun f s W i j l n p a => gno (a.says (d := 31) rfl rfl (j 10 rfl)),
  fun f s W i j l n p a => gno (a.says (d := 31) rfl rfl (j 10 rfl)),
  fun f s W i j l n p a => gno (a.says (d := 31) rfl rfl (j 10 rfl)),
  fun f s W i j l n p a => gno (a.says (d := 31) rfl rfl (j 10 rfl)),
  fun f s W i j l n p a => gno (a.says (d := 31) rfl rfl (j 10 rfl)),
  fun f s W i j l n p a => gno (a.says (d := 31) rfl rfl (j 10 rfl)),
  fun f s W i j l n p a => opk (c := false) rfl rfl (fun _ => by simp [go_sem, a.e 31 (j 10 rfl)]) (fun h => absurd h (by decide)), trivial⟩ ?_
  intro f19 s19 W19 hB19 g19 hg19
  have fB19 := hB19.f fB18
  have z19 := hB19.below.size
  have b19_0 := hB19.b b18_0
  have b19_1 := hB19.b b18_1
  have b19_2 := hB19.b nb18
  refine hK29 _ _ ?_
  have k19_1 := kt hg19 1 k17_1
  have k19_3 := kt hg19 3 k17_3
  have k19_4 := kt hg19 4 k17_4
  have k19_8 := kt hg19 8 k17_8
  have k19_2 := kt hg19 2 k17_2
  have k19_12 := kt hg19 12 k17_12
  have k19_9 := kt hg19 9 k17_9
  have k19_15 := kt hg19 15 k17_15
  have k19_16 := kt hg19 16 k17_16
  have k19_17 := kt hg19 17 k17_17
  have k19_18 := kt hg19 18 k17_18
  have k19_20 := kt hg19 20 k17_20
  have k19_11 := kt hg19 11 k17_11
  have k19_38 := kt hg19 38 (hB19.is 17)
  refine wp_cond_false ((fr_eval rfl).trans k19_38) ?_
  refine wp_skip ?_
  refine inBlock_normal ?_
  refine hK27 _ _ ?_
  refine region_dk 2 [(41, 0), (17, 1)] [[], [0]] (rel [is (.int .i64 1),
   is (.int .i64 1)])
   ⟨is_k, is_k, trivial⟩
   ⟨fun f s W i j l n p a => opv rfl rfl (by simp [go_sem, a.e 17 ((n 1 17 rfl rfl).trans k19_17), IntWalk.i64_in (1) (by omega)]) rfl,
  fun f s W i j l n p a => opv rfl rfl (by simp [go_sem, a.e 41 (j 0 rfl)]) rfl, trivial⟩ ?_
  intro f20 s20 W20 hB20 g20 hg20
  have fB20 := hB20.f fB19
  have z20 := hB20.below.size
  have b20_0 := hB20.b b19_0
  have b20_1 := hB20.b b19_1
  have b20_2 := hB20.b b19_2
  refine wpOps_end ?_
  have k20_1 := kt hg20 1 k19_1
  have k20_3 := kt hg20 3 k19_3
  have k20_4 := kt hg20 4 k19_4
  have k20_8 := kt hg20 8 k19_8
  have k20_2 := kt hg20 2 k19_2
  have k20_12 := kt hg20 12 k19_12
  have k20_9 := kt hg20 9 k19_9
  have k20_15 := kt hg20 15 k19_15
  have k20_16 := kt hg20 16 k19_16
  have k20_18 := kt hg20 18 k19_18
  have k20_20 := kt hg20 20 k19_20
  have k20_11 := kt hg20 11 k19_11
  have k20_38 := kt hg20 38 k19_38
  have k20_17 := kt hg20 17 (hB20.is 1)
  refine then_normal ?_
  rw [rounds_succ]
  refine wp_seq_k fun K31 hK31 => ?_
  refine region_dk 1 [(18, 0)] [[]] (rel [is (.bool false)])
   ⟨is_k, trivial⟩
   ⟨fun f s W i j l n p a => opv rfl rfl (by simp [go_sem, a.e 17 k20_17, a.e 16 k20_16]) rfl, trivial⟩ ?_
  intro f21 s21 W21 hB21 g21 hg21
  have fB21 := hB21.f fB20
  have z21 := hB21.below.size
  have b21_0 := hB21.b b20_0
  have b21_1 := hB21.b b20_1
  have b21_2 := hB21.b b20_2
  refine hK31 _ _ ?_
  have k21_1 := kt hg21 1 k20_1
  have k21_3 := kt hg21 3 k20_3
  have k21_4 := kt hg21 4 k20_4
  have k21_8 := kt hg21 8 k20_8
  have k21_2 := kt hg21 2 k20_2
  have k21_12 := kt hg21 12 k20_12
  have k21_9 := kt hg21 9 k20_9
  have k21_15 := kt hg21 15 k20_15
  have k21_16 := kt hg21 16 k20_16
  have k21_20 := kt hg21 20 k20_20
  have k21_11 := kt hg21 11 k20_11
  have k21_38 := kt hg21 38 k20_38
  have k21_17 := kt hg21 17 k20_17
  have k21_18 := kt hg21 18 (hB21.is 0)
  refine wp_seq_k fun K32 hK32 => ?_
  refine wp_cond_false ((fr_eval rfl).trans k21_18) ?_
  refine wp_exit ?_
  refine then_exit ?_
  refine then_exit ?_
  refine inBlock_at ?_
  refine inBlock_normal ?_
  refine then_normal ?_
  rw [rounds_succ]
  refine wp_seq_k fun K34 hK34 => ?_
  refine wp_seq_k fun K35 hK35 => ?_
  refine region_dk 1 [(12, 0)] [[]] (rel [is (.bool false)])
   ⟨is_k, trivial⟩
   ⟨fun f s W i j l n p a => opv rfl rfl (by simp [go_sem, a.e 9 k21_9]) rfl, trivial⟩ ?_
  intro f22 s22 W22 hB22 g22 hg22
  have fB22 := hB22.f fB21
  have z22 := hB22.below.size
  have b22_0 := hB22.b b21_0
  have b22_1 := hB22.b b21_1
  have b22_2 := hB22.b b21_2
  refine hK35 _ _ ?_
  have k22_1 := kt hg22 1 k21_1
  have k22_3 := kt hg22 3 k21_3
  have k22_4 := kt hg22 4 k21_4
  have k22_8 := kt hg22 8 k21_8
  have k22_2 := kt hg22 2 k21_2
  have k22_9 := kt hg22 9 k21_9
  have k22_15 := kt hg22 15 k21_15
  have k22_16 := kt hg22 16 k21_16
  have k22_20 := kt hg22 20 k21_20
  have k22_11 := kt hg22 11 k21_11
  have k22_38 := kt hg22 38 k21_38
  have k22_17 := kt hg22 17 k21_17
  have k22_18 := kt hg22 18 k21_18
  have k22_12 := kt hg22 12 (hB22.is 0)
  refine wp_cond_false ((fr_eval rfl).trans k22_12) ?_
  refine wp_exit ?_
  refine then_exit ?_
  refine then_exit ?_
  refine inBlock_at ?_
  refine hK2 _ _ ?_
  refine wp_seq_k fun K37 hK37 => ?_
  refine region_dk 2 [(42, 0), (8, 1)] [[], [0]] (rel [is (.int .i64 x.t),
   is (.int .i64 x.t)])
   ⟨is_k, is_k, trivial⟩
   ⟨fun f s W i j l n p a => opv rfl rfl (by simp [go_sem, a.e 2 k22_2]) rfl,
  fun f s W i j l n p a => opv rfl rfl (by simp [go_sem, a.e 42 (j 0 rfl)]) rfl, trivial⟩ ?_
  intro f23 s23 W23 hB23 g23 hg23
  have fB23 := hB23.f fB22
  have z23 := hB23.below.size
  have b23_0 := hB23.b b22_0
  have b23_1 := hB23.b b22_1
  have b23_2 := hB23.b b22_2
  refine hK37 _ _ ?_
  have k23_8 := kt hg23 8 (hB23.is 1)
  refine wp_ret ?_
  refine leave_one (N := 43) (v := .int .i64 x.t) (.inr rfl) Try.results100 rfl k23_8 ?_
  first
   | (rw [show freeF 1 x k at_ n_ = at_ from if_neg (fun h => by rw [hh_] at h; exact absurd h.2 (by decide))]; exact ⟨rfl, fB23⟩)
   | (rw [show freeF 1 x k at_ n_ = x.t from if_pos ⟨rfl, hh_⟩]; exact ⟨rfl, fB23⟩)
 ·
  have hc15' := hc15; try simp only [ba] at hc15'
  have hh_ : hitF x k at_ n_ = false := hc15
  refine wp_skip ?_
  refine inBlock_normal ?_
  refine hK12 _ _ ?_
  refine region_dk 2 [(41, 0), (17, 1)] [[], [0]] (rel [is (.int .i64 1),
   is (.int .i64 1)])
   ⟨is_k, is_k, trivial⟩
   ⟨fun f s W i j l n p a => opv rfl rfl (by simp [go_sem, a.e 17 ((n 1 17 rfl rfl).trans k9_17), IntWalk.i64_in (1) (by omega)]) rfl,
  fun f s W i j l n p a => opv rfl rfl (by simp [go_sem, a.e 41 (j 0 rfl)]) rfl, trivial⟩ ?_
  intro f24 s24 W24 hB24 g24 hg24
  have fB24 := hB24.f fB9
  have z24 := hB24.below.size
  have b24_0 := hB24.b b9_0
  have b24_1 := hB24.b b9_1
  refine wpOps_end ?_
  have k24_1 := kt hg24 1 k9_1
  have k24_2 := kt hg24 2 k9_2
  have k24_3 := kt hg24 3 k9_3
  have k24_4 := kt hg24 4 k9_4
  have k24_8 := kt hg24 8 k9_8
  have k24_12 := kt hg24 12 k9_12
  have k24_9 := kt hg24 9 k9_9
  have k24_15 := kt hg24 15 k9_15
  have k24_16 := kt hg24 16 k9_16
  have k24_18 := kt hg24 18 k9_18
  have k24_20 := kt hg24 20 k9_20
  have k24_11 := kt hg24 11 k9_11
  have k24_38 := kt hg24 38 k9_38
  have k24_17 := kt hg24 17 (hB24.is 1)
  refine then_normal ?_
  rw [rounds_succ]
  refine wp_seq_k fun K38 hK38 => ?_
  refine region_dk 1 [(18, 0)] [[]] (rel [is (.bool false)])
   ⟨is_k, trivial⟩
   ⟨fun f s W i j l n p a => opv rfl rfl (by simp [go_sem, a.e 17 k24_17, a.e 16 k24_16]) rfl, trivial⟩ ?_
  intro f25 s25 W25 hB25 g25 hg25
  have fB25 := hB25.f fB24
  have z25 := hB25.below.size
  have b25_0 := hB25.b b24_0
  have b25_1 := hB25.b b24_1
  refine hK38 _ _ ?_
  have k25_1 := kt hg25 1 k24_1
  have k25_2 := kt hg25 2 k24_2
  have k25_3 := kt hg25 3 k24_3
  have k25_4 := kt hg25 4 k24_4
  have k25_8 := kt hg25 8 k24_8
  have k25_12 := kt hg25 12 k24_12
  have k25_9 := kt hg25 9 k24_9
  have k25_15 := kt hg25 15 k24_15
  have k25_16 := kt hg25 16 k24_16
  have k25_20 := kt hg25 20 k24_20
  have k25_11 := kt hg25 11 k24_11
  have k25_38 := kt hg25 38 k24_38
  have k25_17 := kt hg25 17 k24_17
  have k25_18 := kt hg25 18 (hB25.is 0)
  refine wp_seq_k fun K39 hK39 => ?_
  refine wp_cond_false ((fr_eval rfl).trans k25_18) ?_
  refine wp_exit ?_
  refine then_exit ?_
  refine then_exit ?_
  refine inBlock_at ?_
  refine inBlock_normal ?_
  refine then_normal ?_
  rw [rounds_succ]
  refine wp_seq_k fun K41 hK41 => ?_
  refine wp_seq_k fun K42 hK42 => ?_
  refine region_dk 1 [(12, 0)] [[]] (rel [is (.bool false)])
   ⟨is_k, trivial⟩
   ⟨fun f s W i j l n p a => opv rfl rfl (by simp [go_sem, a.e 9 k25_9]) rfl, trivial⟩ ?_
  intro f26 s26 W26 hB26 g26 hg26
  have fB26 := hB26.f fB25
  have z26 := hB26.below.size
  have b26_0 := hB26.b b25_0
  have b26_1 := hB26.b b25_1
  refine hK42 _ _ ?_
  have k26_1 := kt hg26 1 k25_1
  have k26_2 := kt hg26 2 k25_2
  have k26_3 := kt hg26 3 k25_3
  have k26_4 := kt hg26 4 k25_4
  have k26_8 := kt hg26 8 k25_8
  have k26_9 := kt hg26 9 k25_9
  have k26_15 := kt hg26 15 k25_15
  have k26_16 := kt hg26 16 k25_16
  have k26_20 := kt hg26 20 k25_20
  have k26_11 := kt hg26 11 k25_11
  have k26_38 := kt hg26 38 k25_38
  have k26_17 := kt hg26 17 k25_17
  have k26_18 := kt hg26 18 k25_18
  have k26_12 := kt hg26 12 (hB26.is 0)
  refine wp_cond_false ((fr_eval rfl).trans k26_12) ?_
  refine wp_exit ?_
  refine then_exit ?_
  refine then_exit ?_
  refine inBlock_at ?_
  refine hK2 _ _ ?_
  refine wp_seq_k fun K44 hK44 => ?_
  refine region_dk 2 [(42, 0), (8, 1)] [[], [0]] (rel [is (.int .i64 at_),
   is (.int .i64 at_)])
   ⟨is_k, is_k, trivial⟩
   ⟨fun f s W i j l n p a => opv rfl rfl (by simp [go_sem, a.e 2 k26_2]) rfl,
  fun f s W i j l n p a => opv rfl rfl (by simp [go_sem, a.e 42 (j 0 rfl)]) rfl, trivial⟩ ?_
  intro f27 s27 W27 hB27 g27 hg27
  have fB27 := hB27.f fB26
  have z27 := hB27.below.size
  have b27_0 := hB27.b b26_0
  have b27_1 := hB27.b b26_1
  refine hK44 _ _ ?_
  have k27_8 := kt hg27 8 (hB27.is 1)
  refine wp_ret ?_
  refine leave_one (N := 43) (v := .int .i64 at_) (.inr rfl) Try.results100 rfl k27_8 ?_
  first
   | (rw [show freeF 1 x k at_ n_ = at_ from if_neg (fun h => by rw [hh_] at h; exact absurd h.2 (by decide))]; exact ⟨rfl, fB27⟩)
   | (rw [show freeF 1 x k at_ n_ = x.t from if_pos ⟨rfl, hh_⟩]; exact ⟨rfl, fB27⟩)
theorem free_any (nm ns nj : Nat) (x : Fs) (bc oc cc bs os_ sc bj oj cj : Nat) (sa : Option Addr) (k at_ n_ : Int) (w : World) (gk : 0 ≤ k ∧ k ≤ 4) (ga : 0 ≤ at_ ∧ at_ ≤ 100000) (gn_ : 0 ≤ n_ ∧ n_ ≤ 2000) (gns : ns ≤ 1) (hS : StR w bs os_ ns sa x) (gx : 0 ≤ x.t ∧ x.t ≤ 2000) :
    Calls Try.prog 100 #[.agg #[.int .i64 ((nm : Int)), .slice (some ⟨bc, oc, none⟩) (2) (cc), .slice (sa) (ns) (sc), .slice (some ⟨bj, oj, none⟩) (nj) (cj)], .int .i64 k, .int .i64 at_, .int .i64 n_] w (fun e w' => e = .returned (.int .i64 (freeF ns x k at_ n_)) ∧ Below w.heap.size w w') := by
  match ns, gns with
  | 0, _ => exact free_0 nm nj x bc oc cc bs os_ sc bj oj cj sa k at_ n_ w gk ga gn_
  | 1, _ => exact free_1 nm nj x bc oc cc bs os_ sc bj oj cj sa k at_ n_ w gk ga gn_ hS gx
end Go.Proofs.Ytcgccflcjejlhaa
