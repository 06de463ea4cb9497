/- Part of the proof: what the claim leans on. -/
import Derived.Test.YtiocklgakklkpaaNAQ
set_option linter.unusedSimpArgs false
set_option linter.unusedVariables false
namespace Go.Proofs.Ytiocklgakklkpaa
open Go.RowKit
set_option maxRecDepth 100000 in
set_option maxHeartbeats 400000 in
theorem weightP (p : Pa) (w : World) :
  Calls Try.prog 53 #[.agg #[.int .i64 p.kind, .int .i64 p.weight, .int .i64 p.t1, .int .i64 p.t2, .int .i64 p.m1, .int .i64 p.m2, .int .i64 p.price, .int .i64 p.strong]] w (fun e w' => e = .returned (.int .i64 p.weight) ∧ Below w.heap.size w w') := by
 refine calls_fr Try.func53 Try.ntmps53 rfl rfl fun g hg => ?_
 have k0 : g 0 = .agg #[.int .i64 p.kind, .int .i64 p.weight, .int .i64 p.t1, .int .i64 p.t2, .int .i64 p.m1, .int .i64 p.m2, .int .i64 p.price, .int .i64 p.strong] := hg 0
 clear hg
 have fB0 : Below w.heap.size w w := Below.refl _ _
 refine wp_seq_k fun K1 hK1 => ?_
 refine region_dk 2 [(1, 0), (2, 1)] [[], []] (rel [bx 0 #[.int .i64 p.kind, .int .i64 p.weight, .int .i64 p.t1, .int .i64 p.t2, .int .i64 p.m1, .int .i64 p.m2, .int .i64 p.price, .int .i64 p.strong] 68,
   is (.int .i64 0)])
  ⟨bx_k, is_k, trivial⟩
  ⟨fun f s W c d h i j a => opb rfl rfl (by simp [go_sem, a.e 0 k0]),
  fun f s W c d h i j a => opv rfl rfl (by simp [go_sem]) rfl, trivial⟩ ?_
 intro f1 s1 W1 hB1 g1 hg1
 have fB1 := hB1.f fB0
 have z1 := hB1.below.size
 obtain ⟨r1_0, br1_0⟩ := hB1.is 0
 have lr1_0 := hB1.lr 0 br1_0
 refine hK1 _ _ ?_
 have k1_1 := kt hg1 1 r1_0
 have k1_2 := kt hg1 2 (hB1.is 1)
 refine wp_seq_k fun K2 hK2 => ?_
 refine region_dk 3 [(3, 0), (4, 1), (2, 2)] [[], [0], [0, 1]] (rel [is (.pointer (some ⟨(s1 0), 1, none⟩)),
   is (.int .i64 p.weight),
   is (.int .i64 p.weight)])
  ⟨is_k, is_k, is_k, trivial⟩
  ⟨fun f s W c d h i j a => opv rfl rfl (by simp [go_sem, a.e 1 k1_1]) rfl,
  fun f s W c d h i j a => opv rfl rfl (by simp [go_sem, a.e 3 (d 0 rfl), cb br1_0 c 1]) rfl,
  fun f s W c d h i j a => opv rfl rfl (by simp [go_sem, a.e 4 (d 1 rfl)]) rfl, trivial⟩ ?_
 intro f2 s2 W2 hB2 g2 hg2
 have fB2 := hB2.f fB1
 have z2 := hB2.below.size
 have b2_0 := hB2.b br1_0
 refine hK2 _ _ ?_
 have k2_2 := kt hg2 2 (hB2.is 2)
 refine wp_ret ?_
 refine leave_one (N := 5) (v := .int .i64 p.weight) (.inr rfl) Try.results53 rfl k2_2 ?_
 exact ⟨rfl, fB2⟩
set_option maxRecDepth 100000 in
set_option maxHeartbeats 400000 in
theorem ratio_580 (w : World) :
  Calls Try.prog 51 #[.int .i64 4640000, .int .i64 8000] w (fun e w' => e = .returned (.agg #[.int .i64 580, .int .i64 1]) ∧ Below w.heap.size w w') := by
 refine calls_fr Try.func51 Try.ntmps51 rfl rfl fun g hg => ?_
 have k0 : g 0 = .int .i64 4640000 := hg 0
 have k1 : g 1 = .int .i64 8000 := hg 1
 clear hg
 have fB0 : Below w.heap.size w w := Below.refl _ _
 refine wp_seq_k fun K1 hK1 => ?_
 refine region_dk 1 [(4, 0)] [[]] (rel [bx 0 #[.int .i64 0, .int .i64 0] 86])
  ⟨bx_k, trivial⟩
  ⟨fun f s W c d h i j a => opb rfl rfl (by simp [go_sem]), trivial⟩ ?_
 intro f1 s1 W1 hB1 g1 hg1
 have fB1 := hB1.f fB0
 have z1 := hB1.below.size
 obtain ⟨r1_0, br1_0⟩ := hB1.is 0
 have lr1_0 := hB1.lr 0 br1_0
 refine hK1 _ _ ?_
 have k1_0 := kt hg1 0 k0
 have k1_1 := kt hg1 1 k1
 have k1_4 := kt hg1 4 r1_0
 refine wp_seq_k fun K2 hK2 => ?_
 refine region_dk 4 [(8, 0), (9, 1), (5, 2), (6, 3)] [[], [], [0], [0, 1, 2]] (rel [is (.int .i64 4640000),
   is (.int .i64 8000),
   is (.int .i64 4640000),
   is (.int .i64 8000)])
  ⟨is_k, is_k, is_k, is_k, trivial⟩
  ⟨fun f s W c d h i j a => opv rfl rfl (by simp [go_sem, a.e 0 k1_0]) rfl,
  fun f s W c d h i j a => opv rfl rfl (by simp [go_sem, a.e 1 k1_1]) rfl,
  fun f s W c d h i j a => opv rfl rfl (by simp [go_sem, a.e 8 (d 0 rfl)]) rfl,
  fun f s W c d h i j a => opv rfl rfl (by simp [go_sem, a.e 9 (d 1 rfl)]) rfl, trivial⟩ ?_
 intro f2 s2 W2 hB2 g2 hg2
 have fB2 := hB2.f fB1
 have z2 := hB2.below.size
 have b2_0 := hB2.b br1_0
 refine hK2 _ _ ?_
 have k2_0 := kt hg2 0 k1_0
 have k2_1 := kt hg2 1 k1_1
 have k2_4 := kt hg2 4 k1_4
 have k2_5 := kt hg2 5 (hB2.is 2)
 have k2_6 := kt hg2 6 (hB2.is 3)
 refine wp_seq_k fun K3 hK3 => ?_
 refine wp_block ?_
 refine wp_loop_rounds 2 ?_
 rw [rounds_succ]
 refine wp_seq_k fun K4 hK4 => ?_
 refine wp_seq_k fun K5 hK5 => ?_
 refine region_dk 2 [(10, 0), (11, 1)] [[], [0]] (rel [is (.int .i64 8000),
   is (.bool true)])
  ⟨is_k, is_k, trivial⟩
  ⟨fun f s W c d h i j a => opv rfl rfl (by simp [go_sem, a.e 6 k2_6]) rfl,
  fun f s W c d h i j a => opv rfl rfl (by simp [go_sem, a.e 10 (d 0 rfl)]) rfl, trivial⟩ ?_
 intro f3 s3 W3 hB3 g3 hg3
 have fB3 := hB3.f fB2
 have z3 := hB3.below.size
 have b3_0 := hB3.b b2_0
 refine hK5 _ _ ?_
 have k3_0 := kt hg3 0 k2_0
 have k3_1 := kt hg3 1 k2_1
 have k3_4 := kt hg3 4 k2_4
 have k3_5 := kt hg3 5 k2_5
 have k3_6 := kt hg3 6 k2_6
 have k3_11 := kt hg3 11 (hB3.is 1)
 refine wp_cond_true ((fr_eval rfl).trans k3_11) ?_
 refine wp_skip ?_
 refine hK4 _ _ ?_
 refine wp_block ?_
 refine wp_seq_k fun K7 hK7 => ?_
 refine region_dk 4 [(12, 0), (13, 1), (14, 2), (7, 3)] [[], [], [0, 1], [0, 1, 2]] (rel [is (.int .i64 4640000),
   is (.int .i64 8000),
   is (.int .i64 0),
   is (.int .i64 0)])
  ⟨is_k, is_k, is_k, is_k, trivial⟩
  ⟨fun f s W c d h i j a => opv rfl rfl (by simp [go_sem, a.e 5 k3_5]) rfl,
  fun f s W c d h i j a => opv rfl rfl (by simp [go_sem, a.e 6 k3_6]) rfl,
  fun f s W c d h i j a => by have qw_ := IntWalk.i64_in (0) (by decide); exact opv rfl rfl (by simp [go_sem, a.e 12 (d 0 rfl), a.e 13 (d 1 rfl), qw_]) rfl,
  fun f s W c d h i j a => opv rfl rfl (by simp [go_sem, a.e 14 (d 2 rfl)]) rfl, trivial⟩ ?_
 intro f4 s4 W4 hB4 g4 hg4
 have fB4 := hB4.f fB3
 have z4 := hB4.below.size
 have b4_0 := hB4.b b3_0
 refine hK7 _ _ ?_
 have k4_0 := kt hg4 0 k3_0
 have k4_1 := kt hg4 1 k3_1
 have k4_4 := kt hg4 4 k3_4
 have k4_5 := kt hg4 5 k3_5
 have k4_6 := kt hg4 6 k3_6
 have k4_11 := kt hg4 11 k3_11
 have k4_7 := kt hg4 7 (hB4.is 3)
 refine region_dk 4 [(15, 0), (16, 1), (5, 2), (6, 3)] [[], [], [0], [0, 1, 2]] (rel [is (.int .i64 8000),
   is (.int .i64 0),
   is (.int .i64 8000),
   is (.int .i64 0)])
  ⟨is_k, is_k, is_k, is_k, trivial⟩
  ⟨fun f s W c d h i j a => opv rfl rfl (by simp [go_sem, a.e 6 ((i 3 6 rfl rfl).trans k4_6)]) rfl,
  fun f s W c d h i j a => opv rfl rfl (by simp [go_sem, a.e 7 k4_7]) rfl,
  fun f s W c d h i j a => opv rfl rfl (by simp [go_sem, a.e 15 (d 0 rfl)]) rfl,
  fun f s W c d h i j a => opv rfl rfl (by simp [go_sem, a.e 16 (d 1 rfl)]) rfl, trivial⟩ ?_
 intro f5 s5 W5 hB5 g5 hg5
 have fB5 := hB5.f fB4
 have z5 := hB5.below.size
 have b5_0 := hB5.b b4_0
 refine wpOps_end ?_
 have k5_0 := kt hg5 0 k4_0
 have k5_1 := kt hg5 1 k4_1
 have k5_4 := kt hg5 4 k4_4
 have k5_11 := kt hg5 11 k4_11
 have k5_7 := kt hg5 7 k4_7
 have k5_5 := kt hg5 5 (hB5.is 2)
 have k5_6 := kt hg5 6 (hB5.is 3)
 refine inBlock_normal ?_
 refine then_normal ?_
 rw [rounds_succ]
 refine wp_seq_k fun K8 hK8 => ?_
 refine wp_seq_k fun K9 hK9 => ?_
 refine region_dk 2 [(10, 0), (11, 1)] [[], [0]] (rel [is (.int .i64 0),
   is (.bool false)])
  ⟨is_k, is_k, trivial⟩
  ⟨fun f s W c d h i j a => opv rfl rfl (by simp [go_sem, a.e 6 k5_6]) rfl,
  fun f s W c d h i j a => opv rfl rfl (by simp [go_sem, a.e 10 (d 0 rfl)]) rfl, trivial⟩ ?_
 intro f6 s6 W6 hB6 g6 hg6
 have fB6 := hB6.f fB5
 have z6 := hB6.below.size
 have b6_0 := hB6.b b5_0
 refine hK9 _ _ ?_
 have k6_0 := kt hg6 0 k5_0
 have k6_1 := kt hg6 1 k5_1
 have k6_4 := kt hg6 4 k5_4
 have k6_7 := kt hg6 7 k5_7
 have k6_5 := kt hg6 5 k5_5
 have k6_6 := kt hg6 6 k5_6
 have k6_11 := kt hg6 11 (hB6.is 1)
 refine wp_cond_false ((fr_eval rfl).trans k6_11) ?_
 refine wp_exit ?_
 refine then_exit ?_
 refine then_exit ?_
 refine inBlock_at ?_
 refine hK3 _ _ ?_
 refine wp_seq_k fun K11 hK11 => ?_
 refine region_dk 7 [(17, 0), (18, 1), (19, 2), (20, 3), (21, 4), (22, 5), (23, 6)] [[], [], [0, 1], [], [], [3, 4], [0, 1, 2, 3, 4, 5], [0, 1, 2, 3, 4, 5, 6]] (rel [is (.int .i64 4640000),
   is (.int .i64 8000),
   is (.int .i64 580),
   is (.int .i64 8000),
   is (.int .i64 8000),
   is (.int .i64 1),
   is (.agg #[.int .i64 580, .int .i64 1])])
  ⟨is_k, is_k, is_k, is_k, is_k, is_k, is_k, trivial⟩
  ⟨fun f s W c d h i j a => opv rfl rfl (by simp [go_sem, a.e 0 k6_0]) rfl,
  fun f s W c d h i j a => opv rfl rfl (by simp [go_sem, a.e 5 k6_5]) rfl,
  fun f s W c d h i j a => by have qw_ := IntWalk.i64_in (580) (by decide); exact opv rfl rfl (by simp [go_sem, a.e 17 (d 0 rfl), a.e 18 (d 1 rfl), qw_]) rfl,
  fun f s W c d h i j a => opv rfl rfl (by simp [go_sem, a.e 1 k6_1]) rfl,
  fun f s W c d h i j a => opv rfl rfl (by simp [go_sem, a.e 5 k6_5]) rfl,
  fun f s W c d h i j a => by have qw_ := IntWalk.i64_in (1) (by decide); exact opv rfl rfl (by simp [go_sem, a.e 20 (d 3 rfl), a.e 21 (d 4 rfl), qw_]) rfl,
  fun f s W c d h i j a => opv rfl rfl (by simp [go_sem, a.e 19 (d 2 rfl), a.e 22 (d 5 rfl)]) rfl, trivial⟩ ?_
 intro f7 s7 W7 hB7 g7 hg7
 have fB7 := hB7.f fB6
 have z7 := hB7.below.size
 have b7_0 := hB7.b b6_0
 have k7_4 := kt hg7 4 k6_4
 have k7_23 := kt hg7 23 (hB7.is 6)
 obtain ⟨W8, hW8⟩ : ∃ W', W' = W7.setRow (s1 0) #[.int .i64 580, .int .i64 1] := ⟨_, rfl⟩
 refine tail_skip (o := _) rfl ⟨rfl, rfl⟩ (run_seg hW8 (fr_ev k7_4) (fr_ev k7_23) b7_0 rfl rfl rfl rfl) ?_
 obtain ⟨fB8, nb8, ot8, z8⟩ := seg_facts hW8 fB7 b7_0 (by omega)
 clear hW8
 refine wpOps_end ?_
 refine hK11 _ _ ?_
 refine wp_ret ?_
 refine leave_gen (v := .agg #[.int .i64 580, .int .i64 1]) (.inr rfl) (by simp [results, Try.results51, go_sem, frv 24 k7_4, cl nb8 0, cl nb8 1]) ?_
 exact ⟨rfl, fB8⟩
set_option maxRecDepth 100000 in
set_option maxHeartbeats 8000000 in
theorem weigh_1 (ps : Nat → Pa) (qs : Nat → Fu) (bp oP np cp bq oq nq cq : Nat) (tx ux cx tf uf cf pa0 pa1 pa2 fa0 : Nat) (PA0 PA1 PA2 : Pa) (FA0 : Fu) (qv0 : Int) (oo : Nat → Int) (w : World) (hP : PaR w bp oP np ps) (hQ : FuR w bq oq nq qs) (hpi : ∀ i, i < np → PaIn (ps i)) (hqi : ∀ i, i < nq → FuIn (qs i)) (np1 : 1 ≤ np) (np8 : np ≤ 8) (nq1 : 1 ≤ nq) (nq4 : nq ≤ 4) (hX : Ii w (some ⟨tx, ux, none⟩) 3 cx [(pa0 : Int), (pa1 : Int), (pa2 : Int)]) (hF : Ii w (some ⟨tf, uf, none⟩) 1 cf [(fa0 : Int)]) (hpa0 : pa0 < np) (epa0 : ps pa0 = PA0) (hpa1 : pa1 < np) (epa1 : ps pa1 = PA1) (hpa2 : pa2 < np) (epa2 : ps pa2 = PA2) (hfa0 : fa0 < nq) (efa0 : qs fa0 = FA0) (hk0 : PA0.kind = 1) (hk1 : PA1.kind = 2) (hk2 : PA2.kind = 1) (hwh : FA0.pitch = (8000 : Int)) (gwh : 0 ≤ (8000 : Int) ∧ (8000 : Int) ≤ 100000000) (gw1 : 0 ≤ FA0.pitch ∧ FA0.pitch ≤ 10000) (hqv0 : (8000 : Int) / FA0.pitch = qv0) (gqv0 : 0 ≤ qv0 ∧ qv0 ≤ 100000000) (gqd0 : 0 ≤ qv0 * FA0.draw ∧ qv0 * FA0.draw ≤ 200000000) (gpi0 : 1000 ≤ FA0.pitch ∧ FA0.pitch ≤ 10000) (hsm : sumS oo (fun i => [(8000 : Int), qv0 * FA0.draw, (8000 : Int)].getD i 0) 3 = 4640000) (hoo : ∀ i, i < 3 → 0 ≤ oo i ∧ oo i ≤ 1200000) (hov0 : PA0.weight = oo 0) (hov1 : PA1.weight = oo 1) (hov2 : PA2.weight = oo 2) :
  Calls Try.prog 30 #[.agg #[.slice (some ⟨bp, oP, none⟩) (np) (cp), .slice (some ⟨bq, oq, none⟩) (nq) (cq)], .agg #[.slice (some ⟨tx, ux, none⟩) (3) (cx), .slice (some ⟨tf, uf, none⟩) (1) (cf)]] w (fun e w' => e = .returned (.tuple #[.agg #[.int .i64 580, .int .i64 1], .int .i64 0]) ∧ Below w.heap.size w w') := by
 refine calls_fr Try.func30 Try.ntmps30 rfl rfl fun g hg => ?_
 have k0 : g 0 = .agg #[.slice (some ⟨bp, oP, none⟩) (np) (cp), .slice (some ⟨bq, oq, none⟩) (nq) (cq)] := hg 0
 have k1 : g 1 = .agg #[.slice (some ⟨tx, ux, none⟩) (3) (cx), .slice (some ⟨tf, uf, none⟩) (1) (cf)] := hg 1
 clear hg
 have fB0 : Below w.heap.size w w := Below.refl _ _
 refine wp_seq_k fun K1 hK1 => ?_
 refine region_dk 4 [(2, 0), (3, 1), (4, 2), (5, 3)] [[], [], [], []] (rel [bx 0 #[.slice (some ⟨bp, oP, none⟩) (np) (cp), .slice (some ⟨bq, oq, none⟩) (nq) (cq)] 33,
   bx 1 #[.slice (some ⟨tx, ux, none⟩) (3) (cx), .slice (some ⟨tf, uf, none⟩) (1) (cf)] 46,
   bx 2 #[.int .i64 0, .int .i64 0] 86,
   is (.int .i64 0)])
  ⟨bx_k, bx_k, bx_k, is_k, trivial⟩
  ⟨fun f s W c d j k l a => opb rfl rfl (by simp [go_sem, a.e 0 k0]),
  fun f s W c d j k l a => opb rfl rfl (by simp [go_sem, a.e 1 k1]),
  fun f s W c d j k l a => opb rfl rfl (by simp [go_sem]),
  fun f s W c d j k l a => opv rfl rfl (by simp [go_sem]) rfl, trivial⟩ ?_
 intro f1 s1 W1 hB1 g1 hg1
 have fB1 := hB1.f fB0
 have z1 := hB1.below.size
 obtain ⟨r1_0, br1_0⟩ := hB1.is 0
 have lr1_0 := hB1.lr 0 br1_0
 obtain ⟨r1_1, br1_1⟩ := hB1.is 1
 have lr1_1 := hB1.lr 1 br1_1
 obtain ⟨r1_2, br1_2⟩ := hB1.is 2
 have lr1_2 := hB1.lr 2 br1_2
 have ne1_0_1 := hB1.nb 0 1
 have ne1_0_2 := hB1.nb 0 2
 have ne1_1_2 := hB1.nb 1 2
 refine hK1 _ _ ?_
 have k1_2 := kt hg1 2 r1_0
 have k1_3 := kt hg1 3 r1_1
 have k1_4 := kt hg1 4 r1_2
 have k1_5 := kt hg1 5 (hB1.is 3)
 refine wp_seq_k fun K2 hK2 => ?_
 refine region_dk 7 [(8, 0), (9, 1), (10, 2), (7, 3), (11, 4), (12, 5), (6, 6), (5, 8)] [[], [], [0, 1], [0, 1, 2], [0, 1, 2, 3], [0, 1, 2, 3], [], [0, 1, 2, 3, 4, 6], [0, 1, 2, 3, 4, 5, 6, 7]] (rel [is (.agg #[.slice (some ⟨bp, oP, none⟩) (np) (cp), .slice (some ⟨bq, oq, none⟩) (nq) (cq)]),
   is (.agg #[.slice (some ⟨tx, ux, none⟩) (3) (cx), .slice (some ⟨tf, uf, none⟩) (1) (cf)]),
   is (.tuple #[.agg #[.slice (some ⟨tx, ux, none⟩) (3) (cx), .slice (some ⟨tf, uf, none⟩) (1) (cf), .slice (some ⟨bp, oP, none⟩) (np) (cp), .slice (some ⟨bq, oq, none⟩) (nq) (cq), .int .i64 8000], .int .i64 0]),
   is (.tuple #[.agg #[.slice (some ⟨tx, ux, none⟩) (3) (cx), .slice (some ⟨tf, uf, none⟩) (1) (cf), .slice (some ⟨bp, oP, none⟩) (np) (cp), .slice (some ⟨bq, oq, none⟩) (nq) (cq), .int .i64 8000], .int .i64 0]),
   is (.agg #[.slice (some ⟨tx, ux, none⟩) (3) (cx), .slice (some ⟨tf, uf, none⟩) (1) (cf), .slice (some ⟨bp, oP, none⟩) (np) (cp), .slice (some ⟨bq, oq, none⟩) (nq) (cq), .int .i64 8000]),
   is (.int .i64 0),
   bx 6 #[.slice (none) (0) (0), .slice (none) (0) (0), .slice (none) (0) (0), .slice (none) (0) (0), .int .i64 0] 72])
  ⟨is_k, is_k, is_k, is_k, is_k, is_k, bx_k, trivial⟩
  ⟨fun f s W c d j k l a => opv rfl rfl (by simp [go_sem, a.e 2 k1_2, cb br1_0 c 0, cb br1_0 c 1]) rfl,
  fun f s W c d j k l a => opv rfl rfl (by simp [go_sem, a.e 3 k1_3, cb br1_1 c 0, cb br1_1 c 1]) rfl,
  fun f s W c d j k l a => by have m := below_trans fB1 c; exact opc rfl rfl (by simp [go_sem, a.e 8 (d 0 rfl), a.e 9 (d 1 rfl)]) (newSheet_1 ps qs bp oP np cp bq oq nq cq tx ux cx tf uf cf pa0 pa1 pa2 fa0 PA0 PA1 PA2 FA0 8000 W (hP.below m) (hQ.below m) hpi hqi np1 np8 nq1 nq4 (hX.below m (Nat.le_refl _)) (hF.below m (Nat.le_refl _)) hpa0 epa0 hpa1 epa1 hpa2 epa2 hfa0 efa0 hk0 hk1 hk2 hwh gwh gw1),
  fun f s W c d j k l a => opv rfl rfl (by simp [go_sem, a.e 10 (d 2 rfl)]) rfl,
  fun f s W c d j k l a => opv rfl rfl (by simp [go_sem, a.e 7 (d 3 rfl)]) rfl,
  fun f s W c d j k l a => opv rfl rfl (by simp [go_sem, a.e 7 (d 3 rfl)]) rfl,
  fun f s W c d j k l a => opb rfl rfl (by simp [go_sem]), trivial⟩ ?_
 intro f2 s2 W2 hB2 g2 hg2
 have fB2 := hB2.f fB1
 have z2 := hB2.below.size
 have b2_0 := hB2.b br1_0
 have b2_1 := hB2.b br1_1
 have b2_2 := hB2.b br1_2
 obtain ⟨r2_6, br2_6⟩ := hB2.is 6
 have lr2_6 := hB2.lr 6 br2_6
 have k2_4 := kt hg2 4 k1_4
 have k2_11 := kt hg2 11 (hB2.is 4)
 have k2_12 := kt hg2 12 (hB2.is 5)
 have k2_6 := kt hg2 6 r2_6
 obtain ⟨W3, hW3⟩ : ∃ W', W' = W2.setRow (s2 6) #[.slice (some ⟨tx, ux, none⟩) (3) (cx), .slice (some ⟨tf, uf, none⟩) (1) (cf), .slice (some ⟨bp, oP, none⟩) (np) (cp), .slice (some ⟨bq, oq, none⟩) (nq) (cq), .int .i64 8000] := ⟨_, rfl⟩
 refine tail_skip (o := _) rfl ⟨rfl, rfl⟩ (run_seg hW3 (fr_ev k2_6) (fr_ev k2_11) br2_6 rfl rfl rfl rfl) ?_
 obtain ⟨fB3, nb3, ot3, z3⟩ := seg_facts hW3 fB2 br2_6 (by omega)
 clear hW3
 have b3_0 := ot3 _ _ (by omega) b2_0
 have b3_1 := ot3 _ _ (by omega) b2_1
 have b3_2 := ot3 _ _ (by omega) b2_2
 refine tail_value (o := _) rfl rfl rfl (v := .int .i64 0) (by simp [go_sem, frv 22 k2_12]) ?_
 generalize hg4 : upd g2 5 (.int .i64 0) = g4
 have k4_4 := ku hg4 4 k2_4
 have k4_6 := ku hg4 6 k2_6
 have k4_5 := kt hg4 5 (upd_same _ _ _)
 refine wpOps_end ?_
 refine hK2 _ _ ?_
 refine wp_seq_k fun K3 hK3 => ?_
 refine wp_seq_k fun K4 hK4 => ?_
 refine region_dk 2 [(13, 0), (14, 1)] [[], [0]] (rel [is (.int .i64 0),
   is (.bool false)])
  ⟨is_k, is_k, trivial⟩
  ⟨fun f s W c d j k l a => opv rfl rfl (by simp [go_sem, a.e 5 k4_5]) rfl,
  fun f s W c d j k l a => opv rfl rfl (by simp [go_sem, a.e 13 (d 0 rfl)]) rfl, trivial⟩ ?_
 intro f5 s5 W5 hB5 g5 hg5
 have fB5 := hB5.f fB3
 have z5 := hB5.below.size
 have b5_0 := hB5.b b3_0
 have b5_1 := hB5.b b3_1
 have b5_2 := hB5.b b3_2
 have b5_3 := hB5.b nb3
 refine hK4 _ _ ?_
 have k5_4 := kt hg5 4 k4_4
 have k5_6 := kt hg5 6 k4_6
 have k5_5 := kt hg5 5 k4_5
 have k5_14 := kt hg5 14 (hB5.is 1)
 refine wp_cond_false ((fr_eval rfl).trans k5_14) ?_
 refine wp_skip ?_
 refine hK3 _ _ ?_
 refine wp_seq_k fun K6 hK6 => ?_
 refine region_dk 5 [(17, 0), (18, 1), (19, 2), (20, 3), (21, 4), (5, 6)] [[], [0], [], [2], [0, 1, 2, 3], [0, 1, 2, 3, 4], [0, 1, 2, 3, 4, 5]] (rel [is (.agg #[.slice (some ⟨tx, ux, none⟩) (3) (cx), .slice (some ⟨tf, uf, none⟩) (1) (cf), .slice (some ⟨bp, oP, none⟩) (np) (cp), .slice (some ⟨bq, oq, none⟩) (nq) (cq), .int .i64 8000]),
   is (.int .i64 4640000),
   is (.pointer (some ⟨(s2 6), 4, none⟩)),
   is (.int .i64 8000),
   is (.agg #[.int .i64 580, .int .i64 1])])
  ⟨is_k, is_k, is_k, is_k, is_k, trivial⟩
  ⟨fun f s W c d j k l a => opl rfl rfl rfl (a.v 6 k5_6) (blk_below b5_3 c) Try.underlying72 rfl (by kernel_rfl) rfl,
  fun f s W c d j k l a => by have m := below_trans fB5 c; exact opDo_call rfl rfl (by simp [go_sem, a.e 17 (d 0 rfl)]) (sumL_1 ps qs bp oP np cp bq oq nq cq tx ux cx tf uf cf pa0 pa1 pa2 fa0 PA0 PA1 PA2 FA0 8000 qv0 W (hP.below m) (hQ.below m) hpi hqi np1 np8 nq1 nq4 (hX.below m (Nat.le_refl _)) (hF.below m (Nat.le_refl _)) hpa0 epa0 hpa1 epa1 hpa2 epa2 hfa0 efa0 hk0 hk1 hk2 hwh gwh gw1 hqv0 gqv0 gqd0 gpi0 53 #[] (fun xs w => by simp [go_sem]) oo hoo (fun W' hb' => by rw [show (#[.agg #[.int .i64 PA0.kind, .int .i64 PA0.weight, .int .i64 PA0.t1, .int .i64 PA0.t2, .int .i64 PA0.m1, .int .i64 PA0.m2, .int .i64 PA0.price, .int .i64 PA0.strong]] ++ #[] : Array Value) = #[.agg #[.int .i64 PA0.kind, .int .i64 PA0.weight, .int .i64 PA0.t1, .int .i64 PA0.t2, .int .i64 PA0.m1, .int .i64 PA0.m2, .int .i64 PA0.price, .int .i64 PA0.strong]] from by simp, ← hov0]; exact weightP PA0 W') (fun W' hb' => by rw [show (#[.agg #[.int .i64 PA1.kind, .int .i64 PA1.weight, .int .i64 PA1.t1, .int .i64 PA1.t2, .int .i64 PA1.m1, .int .i64 PA1.m2, .int .i64 PA1.price, .int .i64 PA1.strong]] ++ #[] : Array Value) = #[.agg #[.int .i64 PA1.kind, .int .i64 PA1.weight, .int .i64 PA1.t1, .int .i64 PA1.t2, .int .i64 PA1.m1, .int .i64 PA1.m2, .int .i64 PA1.price, .int .i64 PA1.strong]] from by simp, ← hov1]; exact weightP PA1 W') (fun W' hb' => by rw [show (#[.agg #[.int .i64 PA2.kind, .int .i64 PA2.weight, .int .i64 PA2.t1, .int .i64 PA2.t2, .int .i64 PA2.m1, .int .i64 PA2.m2, .int .i64 PA2.price, .int .i64 PA2.strong]] ++ #[] : Array Value) = #[.agg #[.int .i64 PA2.kind, .int .i64 PA2.weight, .int .i64 PA2.t1, .int .i64 PA2.t2, .int .i64 PA2.m1, .int .i64 PA2.m2, .int .i64 PA2.price, .int .i64 PA2.strong]] from by simp, ← hov2]; exact weightP PA2 W')) ((fun e W' h => by have h1 := h.1; rw [hsm] at h1; exact ⟨_, h1, h.2, rfl⟩)),
  fun f s W c d j k l a => opv rfl rfl (by simp [go_sem, a.e 6 k5_6]) rfl,
  fun f s W c d j k l a => opv rfl rfl (by simp [go_sem, a.e 19 (d 2 rfl), cb b5_3 c 4]) rfl,
  fun f s W c d j k l a => opc rfl rfl (by simp [go_sem, a.e 18 (d 1 rfl), a.e 20 (d 3 rfl)]) (ratio_580 W), trivial⟩ ?_
 intro f6 s6 W6 hB6 g6 hg6
 have fB6 := hB6.f fB5
 have z6 := hB6.below.size
 have b6_0 := hB6.b b5_0
 have b6_1 := hB6.b b5_1
 have b6_2 := hB6.b b5_2
 have b6_3 := hB6.b b5_3
 have k6_4 := kt hg6 4 k5_4
 have k6_21 := kt hg6 21 (hB6.is 4)
 obtain ⟨W7, hW7⟩ : ∃ W', W' = W6.setRow (s1 2) #[.int .i64 580, .int .i64 1] := ⟨_, rfl⟩
 refine tail_skip (o := _) rfl ⟨rfl, rfl⟩ (run_seg hW7 (fr_ev k6_4) (fr_ev k6_21) b6_2 rfl rfl rfl rfl) ?_
 obtain ⟨fB7, nb7, ot7, z7⟩ := seg_facts hW7 fB6 b6_2 (by omega)
 clear hW7
 have b7_0 := ot7 _ _ (by omega) b6_0
 have b7_1 := ot7 _ _ (by omega) b6_1
 have b7_3 := ot7 _ _ (by omega) b6_3
 refine tail_value (o := _) rfl rfl rfl (v := .int .i64 0) (by simp [go_sem]) ?_
 generalize hg8 : upd g6 5 (.int .i64 0) = g8
 have k8_4 := ku hg8 4 k6_4
 have k8_5 := kt hg8 5 (upd_same _ _ _)
 refine wpOps_end ?_
 refine hK6 _ _ ?_
 refine wp_ret ?_
 refine leave_gen (v := .tuple #[.agg #[.int .i64 580, .int .i64 1], .int .i64 0]) (.inr rfl) (by simp [results, Try.results30, go_sem, frv 22 k8_4, cl nb7 0, cl nb7 1, frv 22 k8_5]) ?_
 exact ⟨rfl, fB7⟩
set_option maxRecDepth 100000 in
set_option maxHeartbeats 400000 in
theorem pubSpan_any (x y : Int) (w : World) :
  Calls Try.prog 22 #[.int .i64 x, .int .i64 y] w (fun e w' => e = .returned (.agg #[.int .i64 x, .int .i64 y]) ∧ Below w.heap.size w w') := by
 refine calls_fr Try.func22 Try.ntmps22 rfl rfl fun g hg => ?_
 have k0 : g 0 = .int .i64 x := hg 0
 have k1 : g 1 = .int .i64 y := hg 1
 clear hg
 have fB0 : Below w.heap.size w w := Below.refl _ _
 refine wp_seq_k fun K1 hK1 => ?_
 refine region_dk 1 [(4, 0)] [[]] (rel [bx 0 #[.int .i64 0, .int .i64 0] 40])
  ⟨bx_k, trivial⟩
  ⟨fun f s W c d h i j a => opb rfl rfl (by simp [go_sem]), trivial⟩ ?_
 intro f1 s1 W1 hB1 g1 hg1
 have fB1 := hB1.f fB0
 have z1 := hB1.below.size
 obtain ⟨r1_0, br1_0⟩ := hB1.is 0
 have lr1_0 := hB1.lr 0 br1_0
 refine hK1 _ _ ?_
 have k1_0 := kt hg1 0 k0
 have k1_1 := kt hg1 1 k1
 have k1_4 := kt hg1 4 r1_0
 refine wp_seq_k fun K2 hK2 => ?_
 refine region_dk 3 [(5, 0), (6, 1), (7, 2)] [[], [], [0, 1], [0, 1, 2]] (rel [is (.int .i64 x),
   is (.int .i64 y),
   is (.agg #[.int .i64 x, .int .i64 y])])
  ⟨is_k, is_k, is_k, trivial⟩
  ⟨fun f s W c d h i j a => opv rfl rfl (by simp [go_sem, a.e 0 k1_0]) rfl,
  fun f s W c d h i j a => opv rfl rfl (by simp [go_sem, a.e 1 k1_1]) rfl,
  fun f s W c d h i j a => opv rfl rfl (by simp [go_sem, a.e 5 (d 0 rfl), a.e 6 (d 1 rfl)]) rfl, trivial⟩ ?_
 intro f2 s2 W2 hB2 g2 hg2
 have fB2 := hB2.f fB1
 have z2 := hB2.below.size
 have b2_0 := hB2.b br1_0
 have k2_4 := kt hg2 4 k1_4
 have k2_7 := kt hg2 7 (hB2.is 2)
 obtain ⟨W3, hW3⟩ : ∃ W', W' = W2.setRow (s1 0) #[.int .i64 x, .int .i64 y] := ⟨_, rfl⟩
 refine tail_skip (o := _) rfl ⟨rfl, rfl⟩ (run_seg hW3 (fr_ev k2_4) (fr_ev k2_7) b2_0 rfl rfl rfl rfl) ?_
 obtain ⟨fB3, nb3, ot3, z3⟩ := seg_facts hW3 fB2 b2_0 (by omega)
 clear hW3
 refine wpOps_end ?_
 refine hK2 _ _ ?_
 refine wp_ret ?_
 refine leave_gen (v := .agg #[.int .i64 x, .int .i64 y]) (.inr rfl) (by simp [results, Try.results22, go_sem, frv 8 k2_4, cl nb3 0, cl nb3 1]) ?_
 exact ⟨rfl, fB3⟩
set_option maxRecDepth 100000 in
set_option maxHeartbeats 400000 in
theorem pubIn_any (lo hi t qq : Int) (w : World) (gl : 0 ≤ lo ∧ lo ≤ hi ∧ hi ≤ 100000) (gm : 0 ≤ t * (hi - lo) ∧ t * (hi - lo) ≤ 100000000) (hqq : t * (hi - lo) / 255 = qq) (gq : 0 ≤ qq ∧ qq ≤ 100000000) :
  Calls Try.prog 26 #[.agg #[.int .i64 lo, .int .i64 hi], .int .i64 t] w (fun e w' => e = .returned (.int .i64 (lo + qq)) ∧ Below w.heap.size w w') := by
 refine calls_fr Try.func26 Try.ntmps26 rfl rfl fun g hg => ?_
 have k0 : g 0 = .agg #[.int .i64 lo, .int .i64 hi] := hg 0
 have k1 : g 1 = .int .i64 t := hg 1
 clear hg
 have fB0 : Below w.heap.size w w := Below.refl _ _
 refine wp_seq_k fun K1 hK1 => ?_
 refine region_dk 2 [(2, 0), (4, 1)] [[], []] (rel [bx 0 #[.int .i64 lo, .int .i64 hi] 40,
   is (.int .i64 0)])
  ⟨bx_k, is_k, trivial⟩
  ⟨fun f s W c d h i j a => opb rfl rfl (by simp [go_sem, a.e 0 k0]),
  fun f s W c d h i j a => opv rfl rfl (by simp [go_sem]) rfl, trivial⟩ ?_
 intro f1 s1 W1 hB1 g1 hg1
 have fB1 := hB1.f fB0
 have z1 := hB1.below.size
 obtain ⟨r1_0, br1_0⟩ := hB1.is 0
 have lr1_0 := hB1.lr 0 br1_0
 refine hK1 _ _ ?_
 have k1_1 := kt hg1 1 k1
 have k1_2 := kt hg1 2 r1_0
 have k1_4 := kt hg1 4 (hB1.is 1)
 refine wp_seq_k fun K2 hK2 => ?_
 refine region_dk 12 [(5, 0), (6, 1), (7, 2), (8, 3), (9, 4), (10, 5), (11, 6), (12, 7), (13, 8), (14, 9), (15, 10), (4, 11)] [[], [0], [], [], [3], [], [5], [3, 4, 5, 6], [2, 3, 4, 5, 6, 7], [2, 3, 4, 5, 6, 7, 8], [0, 1, 2, 3, 4, 5, 6, 7, 8, 9], [0, 1, 2, 3, 4, 5, 6, 7, 8, 9, 10]] (rel [is (.pointer (some ⟨(s1 0), 0, none⟩)),
   is (.int .i64 lo),
   is (.int .i64 t),
   is (.pointer (some ⟨(s1 0), 1, none⟩)),
   is (.int .i64 hi),
   is (.pointer (some ⟨(s1 0), 0, none⟩)),
   is (.int .i64 lo),
   is (.int .i64 (hi - lo)),
   is (.int .i64 (t * (hi - lo))),
   is (.int .i64 qq),
   is (.int .i64 (lo + qq)),
   is (.int .i64 (lo + qq))])
  ⟨is_k, is_k, is_k, is_k, is_k, is_k, is_k, is_k, is_k, is_k, is_k, is_k, trivial⟩
  ⟨fun f s W c d h i j a => opv rfl rfl (by simp [go_sem, a.e 2 k1_2]) rfl,
  fun f s W c d h i j a => opv rfl rfl (by simp [go_sem, a.e 5 (d 0 rfl), cb br1_0 c 0]) rfl,
  fun f s W c d h i j a => opv rfl rfl (by simp [go_sem, a.e 1 k1_1]) rfl,
  fun f s W c d h i j a => opv rfl rfl (by simp [go_sem, a.e 2 k1_2]) rfl,
  fun f s W c d h i j a => opv rfl rfl (by simp [go_sem, a.e 8 (d 3 rfl), cb br1_0 c 1]) rfl,
  fun f s W c d h i j a => opv rfl rfl (by simp [go_sem, a.e 2 k1_2]) rfl,
  fun f s W c d h i j a => opv rfl rfl (by simp [go_sem, a.e 10 (d 5 rfl), cb br1_0 c 0]) rfl,
  fun f s W c d h i j a => opv rfl rfl (by simp [go_sem, a.e 9 (d 4 rfl), a.e 11 (d 6 rfl), IntWalk.i64_in (hi - lo) (by omega)]) rfl,
  fun f s W c d h i j a => opv rfl rfl (by simp [go_sem, a.e 7 (d 2 rfl), a.e 12 (d 7 rfl), IntWalk.i64_in (t * (hi - lo)) (by omega)]) rfl,
  fun f s W c d h i j a => by have qu_ : (t * (hi - lo)).tdiv 255 = qq := (Int.tdiv_eq_ediv_of_nonneg (by omega)).trans hqq; have qw_ := IntWalk.i64_in (qq) (by omega); exact opv rfl rfl (by simp [go_sem, a.e 13 (d 8 rfl), qu_, qw_]) rfl,
  fun f s W c d h i j a => opv rfl rfl (by simp [go_sem, a.e 6 (d 1 rfl), a.e 14 (d 9 rfl), IntWalk.i64_in (lo + qq) (by omega)]) rfl,
  fun f s W c d h i j a => opv rfl rfl (by simp [go_sem, a.e 15 (d 10 rfl)]) rfl, trivial⟩ ?_
 intro f2 s2 W2 hB2 g2 hg2
 have fB2 := hB2.f fB1
 have z2 := hB2.below.size
 have b2_0 := hB2.b br1_0
 refine hK2 _ _ ?_
 have k2_4 := kt hg2 4 (hB2.is 11)
 refine wp_ret ?_
 refine leave_one (N := 16) (v := .int .i64 (lo + qq)) (.inr rfl) Try.results26 rfl k2_4 ?_
 exact ⟨rfl, fB2⟩
set_option maxRecDepth 100000 in
set_option maxHeartbeats 400000 in
theorem pubHas_yes (lo hi x : Int) (w : World) (h1 : decide (lo ≤ x) = true) (h2 : decide (x ≤ hi) = true) :
  Calls Try.prog 15 #[.agg #[.int .i64 lo, .int .i64 hi], .int .i64 x] w (fun e w' => e = .returned (.bool true) ∧ Below w.heap.size w w') := by
 refine calls_fr Try.func15 Try.ntmps15 rfl rfl fun g hg => ?_
 have k0 : g 0 = .agg #[.int .i64 lo, .int .i64 hi] := hg 0
 have k1 : g 1 = .int .i64 x := hg 1
 clear hg
 have fB0 : Below w.heap.size w w := Below.refl _ _
 refine wp_seq_k fun K1 hK1 => ?_
 refine region_dk 2 [(2, 0), (4, 1)] [[], []] (rel [bx 0 #[.int .i64 lo, .int .i64 hi] 40,
   is (.bool false)])
  ⟨bx_k, is_k, trivial⟩
  ⟨fun f s W i j k l m a => opb rfl rfl (by simp [go_sem, a.e 0 k0]),
  fun f s W i j k l m a => opv rfl rfl (by simp [go_sem]) rfl, trivial⟩ ?_
 intro f1 s1 W1 hB1 g1 hg1
 have fB1 := hB1.f fB0
 have z1 := hB1.below.size
 obtain ⟨r1_0, br1_0⟩ := hB1.is 0
 have lr1_0 := hB1.lr 0 br1_0
 refine hK1 _ _ ?_
 have k1_1 := kt hg1 1 k1
 have k1_2 := kt hg1 2 r1_0
 have k1_4 := kt hg1 4 (hB1.is 1)
 refine wp_seq_k fun K2 hK2 => ?_
 refine region_dk 11 [(5, 0), (6, 1), (7, 2), (8, 3), (9, 4), (10, 5), (11, 6), (12, 7), (13, 8), (14, 9), (4, 10)] [[], [], [1], [0, 1, 2], [0, 1, 2, 3], [0, 1, 2, 3, 4], [0, 1, 2, 3, 4], [0, 1, 2, 3, 4, 6], [0, 1, 2, 3, 4, 5, 6, 7], [0, 1, 2, 3, 4, 5, 6, 7, 8], [0, 1, 2, 3, 4, 5, 6, 7, 8, 9]] (rel [is (.int .i64 x),
   is (.pointer (some ⟨(s1 0), 0, none⟩)),
   is (.int .i64 lo),
   is (.bool true),
   is (.bool true),
   is (.int .i64 x),
   is (.pointer (some ⟨(s1 0), 1, none⟩)),
   is (.int .i64 hi),
   is (.bool true),
   is (.bool true),
   is (.bool true)])
  ⟨is_k, is_k, is_k, is_k, is_k, is_k, is_k, is_k, is_k, is_k, is_k, trivial⟩
  ⟨fun f s W i j k l m a => opv rfl rfl (by simp [go_sem, a.e 1 k1_1]) rfl,
  fun f s W i j k l m a => opv rfl rfl (by simp [go_sem, a.e 2 k1_2]) rfl,
  fun f s W i j k l m a => opv rfl rfl (by simp [go_sem, a.e 6 (j 1 rfl), cb br1_0 i 0]) rfl,
  fun f s W i j k l m a => opv rfl rfl (by simp [go_sem, a.e 5 (j 0 rfl), a.e 7 (j 2 rfl), h1]) rfl,
  fun f s W i j k l m a => opv rfl rfl (by simp [go_sem, a.e 8 (j 3 rfl)]) rfl,
  fun f s W i j k l m a => osure rfl rfl (a.says (d := 9) rfl rfl (j 4 rfl)) (gv (by simp [go_sem, a.e 1 k1_1]) rfl),
  fun f s W i j k l m a => osure rfl rfl (a.says (d := 9) rfl rfl (j 4 rfl)) (gv (by simp [go_sem, a.e 2 k1_2]) rfl),
  fun f s W i j k l m a => osure rfl rfl (a.says (d := 9) rfl rfl (j 4 rfl)) (gv (by simp [go_sem, a.e 11 (j 6 rfl), cb br1_0 i 1]) rfl),
  fun f s W i j k l m a => osure rfl rfl (a.says (d := 9) rfl rfl (j 4 rfl)) (gv (by simp [go_sem, a.e 10 (j 5 rfl), a.e 12 (j 7 rfl), h2]) rfl),
  fun f s W i j k l m a => opk (c := true) rfl rfl (fun h => absurd h (by decide)) (fun _ => by simp [go_sem, a.e 9 (j 4 rfl), a.e 13 (j 8 rfl)]),
  fun f s W i j k l m a => opv rfl rfl (by simp [go_sem, a.e 14 (j 9 rfl)]) rfl, trivial⟩ ?_
 intro f2 s2 W2 hB2 g2 hg2
 have fB2 := hB2.f fB1
 have z2 := hB2.below.size
 have b2_0 := hB2.b br1_0
 refine hK2 _ _ ?_
 have k2_4 := kt hg2 4 (hB2.is 10)
 refine wp_ret ?_
 refine leave_one (N := 15) (v := .bool true) (.inr rfl) Try.results15 rfl k2_4 ?_
 exact ⟨rfl, fB2⟩
end Go.Proofs.Ytiocklgakklkpaa
