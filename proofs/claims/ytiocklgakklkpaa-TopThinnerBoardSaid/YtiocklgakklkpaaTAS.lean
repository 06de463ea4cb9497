/- Part of the proof: what the claim leans on. -/
import Derived.Test.YtiocklgakklkpaaTAR
import Derived.Test.YtiocklgakklkpaaTAG
import Derived.Test.YtiocklgakklkpaaTAH
set_option linter.unusedSimpArgs false
set_option linter.unusedVariables false
namespace Go.Proofs.Ytiocklgakklkpaa
open Go.RowKit
set_option maxRecDepth 100000 in
set_option maxHeartbeats 400000 in
theorem weightP (p : Pa) (w : World) :
  Calls Try.prog 53 #[.agg #[.int .i64 p.kind, .int .i64 p.weight, .int .i64 p.t1, .int .i64 p.t2, .int .i64 p.m1, .int .i64 p.m2, .int .i64 p.price, .int .i64 p.strong]] w (fun e w' => e = .returned (.int .i64 p.weight) ∧ Below w.heap.size w w') := by
 refine calls_fr Try.func53 Try.ntmps53 rfl rfl fun g hg => ?_
 have k0 : g 0 = .agg #[.int .i64 p.kind, .int .i64 p.weight, .int .i64 p.t1, .int .i64 p.t2, .int .i64 p.m1, .int .i64 p.m2, .int .i64 p.price, .int .i64 p.strong] := hg 0
 clear hg
 have fB0 : Below w.heap.size w w := Below.refl _ _
 refine wp_seq_k fun K1 hK1 => ?_
 refine region_dk 2 [(1, 0), (2, 1)] [[], []] (rel [bx 0 #[.int .i64 p.kind, .int .i64 p.weight, .int .i64 p.t1, .int .i64 p.t2, .int .i64 p.m1, .int .i64 p.m2, .int .i64 p.price, .int .i64 p.strong] 68,
   is (.int .i64 0)])
  ⟨bx_k, is_k, trivial⟩
  ⟨fun f s W c d h i j a => opb rfl rfl (by simp [go_sem, a.e 0 k0]),
  fun f s W c d h i j a => opv rfl rfl (by simp [go_sem]) rfl, trivial⟩ ?_
 intro f1 s1 W1 hB1 g1 hg1
 have fB1 := hB1.f fB0
 have z1 := hB1.below.size
 obtain ⟨r1_0, br1_0⟩ := hB1.is 0
 have lr1_0 := hB1.lr 0 br1_0
 refine hK1 _ _ ?_
 have k1_1 := kt hg1 1 r1_0
 have k1_2 := kt hg1 2 (hB1.is 1)
 refine wp_seq_k fun K2 hK2 => ?_
 refine region_dk 3 [(3, 0), (4, 1), (2, 2)] [[], [0], [0, 1]] (rel [is (.pointer (some ⟨(s1 0), 1, none⟩)),
   is (.int .i64 p.weight),
   is (.int .i64 p.weight)])
  ⟨is_k, is_k, is_k, trivial⟩
  ⟨fun f s W c d h i j a => opv rfl rfl (by simp [go_sem, a.e 1 k1_1]) rfl,
  fun f s W c d h i j a => opv rfl rfl (by simp [go_sem, a.e 3 (d 0 rfl), cb br1_0 c 1]) rfl,
  fun f s W c d h i j a => opv rfl rfl (by simp [go_sem, a.e 4 (d 1 rfl)]) rfl, trivial⟩ ?_
 intro f2 s2 W2 hB2 g2 hg2
 have fB2 := hB2.f fB1
 have z2 := hB2.below.size
 have b2_0 := hB2.b br1_0
 refine hK2 _ _ ?_
 have k2_2 := kt hg2 2 (hB2.is 2)
 refine wp_ret ?_
 refine leave_one (N := 5) (v := .int .i64 p.weight) (.inr rfl) Try.results53 rfl k2_2 ?_
 exact ⟨rfl, fB2⟩
set_option maxRecDepth 100000 in
set_option maxHeartbeats 400000 in
theorem ratio_580 (w : World) :
  Calls Try.prog 51 #[.int .i64 4640000, .int .i64 8000] w (fun e w' => e = .returned (.agg #[.int .i64 580, .int .i64 1]) ∧ Below w.heap.size w w') := by
 refine calls_fr Try.func51 Try.ntmps51 rfl rfl fun g hg => ?_
 have k0 : g 0 = .int .i64 4640000 := hg 0
 have k1 : g 1 = .int .i64 8000 := hg 1
 clear hg
 have fB0 : Below w.heap.size w w := Below.refl _ _
 refine wp_seq_k fun K1 hK1 => ?_
 refine region_dk 1 [(4, 0)] [[]] (rel [bx 0 #[.int .i64 0, .int .i64 0] 86])
  ⟨bx_k, trivial⟩
  ⟨fun f s W c d h i j a => opb rfl rfl (by simp [go_sem]), trivial⟩ ?_
 intro f1 s1 W1 hB1 g1 hg1
 have fB1 := hB1.f fB0
 have z1 := hB1.below.size
 obtain ⟨r1_0, br1_0⟩ := hB1.is 0
 have lr1_0 := hB1.lr 0 br1_0
 refine hK1 _ _ ?_
 have k1_0 := kt hg1 0 k0
 have k1_1 := kt hg1 1 k1
 have k1_4 := kt hg1 4 r1_0
 refine wp_seq_k fun K2 hK2 => ?_
 refine region_dk 4 [(8, 0), (9, 1), (5, 2), (6, 3)] [[], [], [0], [0, 1, 2]] (rel [is (.int .i64 4640000),
   is (.int .i64 8000),
   is (.int .i64 4640000),
   is (.int .i64 8000)])
  ⟨is_k, is_k, is_k, is_k, trivial⟩
  ⟨fun f s W c d h i j a => opv rfl rfl (by simp [go_sem, a.e 0 k1_0]) rfl,
  fun f s W c d h i j a => opv rfl rfl (by simp [go_sem, a.e 1 k1_1]) rfl,
  fun f s W c d h i j a => opv rfl rfl (by simp [go_sem, a.e 8 (d 0 rfl)]) rfl,
  fun f s W c d h i j a => opv rfl rfl (by simp [go_sem, a.e 9 (d 1 rfl)]) rfl, trivial⟩ ?_
 intro f2 s2 W2 hB2 g2 hg2
 have fB2 := hB2.f fB1
 have z2 := hB2.below.size
 have b2_0 := hB2.b br1_0
 refine hK2 _ _ ?_
 have k2_0 := kt hg2 0 k1_0
 have k2_1 := kt hg2 1 k1_1
 have k2_4 := kt hg2 4 k1_4
 have k2_5 := kt hg2 5 (hB2.is 2)
 have k2_6 := kt hg2 6 (hB2.is 3)
 refine wp_seq_k fun K3 hK3 => ?_
 refine wp_block ?_
 refine wp_loop_rounds 2 ?_
 rw [rounds_succ]
 refine wp_seq_k fun K4 hK4 => ?_
 refine wp_seq_k fun K5 hK5 => ?_
 refine region_dk 2 [(10, 0), (11, 1)] [[], [0]] (rel [is (.int .i64 8000),
   is (.bool true)])
  ⟨is_k, is_k, trivial⟩
  ⟨fun f s W c d h i j a => opv rfl rfl (by simp [go_sem, a.e 6 k2_6]) rfl,
  fun f s W c d h i j a => opv rfl rfl (by simp [go_sem, a.e 10 (d 0 rfl)]) rfl, trivial⟩ ?_
 intro f3 s3 W3 hB3 g3 hg3
 have fB3 := hB3.f fB2
 have z3 := hB3.below.size
 have b3_0 := hB3.b b2_0
 refine hK5 _ _ ?_
 have k3_0 := kt hg3 0 k2_0
 have k3_1 := kt hg3 1 k2_1
 have k3_4 := kt hg3 4 k2_4
 have k3_5 := kt hg3 5 k2_5
 have k3_6 := kt hg3 6 k2_6
 have k3_11 := kt hg3 11 (hB3.is 1)
 refine wp_cond_true ((fr_eval rfl).trans k3_11) ?_
 refine wp_skip ?_
 refine hK4 _ _ ?_
 refine wp_block ?_
 refine wp_seq_k fun K7 hK7 => ?_
 refine region_dk 4 [(12, 0), (13, 1), (14, 2), (7, 3)] [[], [], [0, 1], [0, 1, 2]] (rel [is (.int .i64 4640000),
   is (.int .i64 8000),
   is (.int .i64 0),
   is (.int .i64 0)])
  ⟨is_k, is_k, is_k, is_k, trivial⟩
  ⟨fun f s W c d h i j a => opv rfl rfl (by simp [go_sem, a.e 5 k3_5]) rfl,
  fun f s W c d h i j a => opv rfl rfl (by simp [go_sem, a.e 6 k3_6]) rfl,
  fun f s W c d h i j a => by have qw_ := IntWalk.i64_in (0) (by decide); exact opv rfl rfl (by simp [go_sem, a.e 12 (d 0 rfl), a.e 13 (d 1 rfl), qw_]) rfl,
  fun f s W c d h i j a => opv rfl rfl (by simp [go_sem, a.e 14 (d 2 rfl)]) rfl, trivial⟩ ?_
 intro f4 s4 W4 hB4 g4 hg4
 have fB4 := hB4.f fB3
 have z4 := hB4.below.size
 have b4_0 := hB4.b b3_0
 refine hK7 _ _ ?_
 have k4_0 := kt hg4 0 k3_0
 have k4_1 := kt hg4 1 k3_1
 have k4_4 := kt hg4 4 k3_4
 have k4_5 := kt hg4 5 k3_5
 have k4_6 := kt hg4 6 k3_6
 have k4_11 := kt hg4 11 k3_11
 have k4_7 := kt hg4 7 (hB4.is 3)
 refine region_dk 4 [(15, 0), (16, 1), (5, 2), (6, 3)] [[], [], [0], [0, 1, 2]] (rel [is (.int .i64 8000),
   is (.int .i64 0),
   is (.int .i64 8000),
   is (.int .i64 0)])
  ⟨is_k, is_k, is_k, is_k, trivial⟩
  ⟨fun f s W c d h i j a => opv rfl rfl (by simp [go_sem, a.e 6 ((i 3 6 rfl rfl).trans k4_6)]) rfl,
  fun f s W c d h i j a => opv rfl rfl (by simp [go_sem, a.e 7 k4_7]) rfl,
  fun f s W c d h i j a => opv rfl rfl (by simp [go_sem, a.e 15 (d 0 rfl)]) rfl,
  fun f s W c d h i j a => opv rfl rfl (by simp [go_sem, a.e 16 (d 1 rfl)]) rfl, trivial⟩ ?_
 intro f5 s5 W5 hB5 g5 hg5
 have fB5 := hB5.f fB4
 have z5 := hB5.below.size
 have b5_0 := hB5.b b4_0
 refine wpOps_end ?_
 have k5_0 := kt hg5 0 k4_0
 have k5_1 := kt hg5 1 k4_1
 have k5_4 := kt hg5 4 k4_4
 have k5_11 := kt hg5 11 k4_11
 have k5_7 := kt hg5 7 k4_7
 have k5_5 := kt hg5 5 (hB5.is 2)
 have k5_6 := kt hg5 6 (hB5.is 3)
 refine inBlock_normal ?_
 refine then_normal ?_
 rw [rounds_succ]
 refine wp_seq_k fun K8 hK8 => ?_
 refine wp_seq_k fun K9 hK9 => ?_
 refine region_dk 2 [(10, 0), (11, 1)] [[], [0]] (rel [is (.int .i64 0),
   is (.bool false)])
  ⟨is_k, is_k, trivial⟩
  ⟨fun f s W c d h i j a => opv rfl rfl (by simp [go_sem, a.e 6 k5_6]) rfl,
  fun f s W c d h i j a => opv rfl rfl (by simp [go_sem, a.e 10 (d 0 rfl)]) rfl, trivial⟩ ?_
 intro f6 s6 W6 hB6 g6 hg6
 have fB6 := hB6.f fB5
 have z6 := hB6.below.size
 have b6_0 := hB6.b b5_0
 refine hK9 _ _ ?_
 have k6_0 := kt hg6 0 k5_0
 have k6_1 := kt hg6 1 k5_1
 have k6_4 := kt hg6 4 k5_4
 have k6_7 := kt hg6 7 k5_7
 have k6_5 := kt hg6 5 k5_5
 have k6_6 := kt hg6 6 k5_6
 have k6_11 := kt hg6 11 (hB6.is 1)
 refine wp_cond_false ((fr_eval rfl).trans k6_11) ?_
 refine wp_exit ?_
 refine then_exit ?_
 refine then_exit ?_
 refine inBlock_at ?_
 refine hK3 _ _ ?_
 refine wp_seq_k fun K11 hK11 => ?_
 refine region_dk 7 [(17, 0), (18, 1), (19, 2), (20, 3), (21, 4), (22, 5), (23, 6)] [[], [], [0, 1], [], [], [3, 4], [0, 1, 2, 3, 4, 5], [0, 1, 2, 3, 4, 5, 6]] (rel [is (.int .i64 4640000),
   is (.int .i64 8000),
   is (.int .i64 580),
   is (.int .i64 8000),
   is (.int .i64 8000),
   is (.int .i64 1),
   is (.agg #[.int .i64 580, .int .i64 1])])
  ⟨is_k, is_k, is_k, is_k, is_k, is_k, is_k, trivial⟩
  ⟨fun f s W c d h i j a => opv rfl rfl (by simp [go_sem, a.e 0 k6_0]) rfl,
  fun f s W c d h i j a => opv rfl rfl (by simp [go_sem, a.e 5 k6_5]) rfl,
  fun f s W c d h i j a => by have qw_ := IntWalk.i64_in (580) (by decide); exact opv rfl rfl (by simp [go_sem, a.e 17 (d 0 rfl), a.e 18 (d 1 rfl), qw_]) rfl,
  fun f s W c d h i j a => opv rfl rfl (by simp [go_sem, a.e 1 k6_1]) rfl,
  fun f s W c d h i j a => opv rfl rfl (by simp [go_sem, a.e 5 k6_5]) rfl,
  fun f s W c d h i j a => by have qw_ := IntWalk.i64_in (1) (by decide); exact opv rfl rfl (by simp [go_sem, a.e 20 (d 3 rfl), a.e 21 (d 4 rfl), qw_]) rfl,
  fun f s W c d h i j a => opv rfl rfl (by simp [go_sem, a.e 19 (d 2 rfl), a.e 22 (d 5 rfl)]) rfl, trivial⟩ ?_
 intro f7 s7 W7 hB7 g7 hg7
 have fB7 := hB7.f fB6
 have z7 := hB7.below.size
 have b7_0 := hB7.b b6_0
 have k7_4 := kt hg7 4 k6_4
 have k7_23 := kt hg7 23 (hB7.is 6)
 obtain ⟨W8, hW8⟩ : ∃ W', W' = W7.setRow (s1 0) #[.int .i64 580, .int .i64 1] := ⟨_, rfl⟩
 refine tail_skip (o := _) rfl ⟨rfl, rfl⟩ (run_seg hW8 (fr_ev k7_4) (fr_ev k7_23) b7_0 rfl rfl rfl rfl) ?_
 obtain ⟨fB8, nb8, ot8, z8⟩ := seg_facts hW8 fB7 b7_0 (by omega)
 clear hW8
 refine wpOps_end ?_
 refine hK11 _ _ ?_
 refine wp_ret ?_
 refine leave_gen (v := .agg #[.int .i64 580, .int .i64 1]) (.inr rfl) (by simp [results, Try.results51, go_sem, frv 24 k7_4, cl nb8 0, cl nb8 1]) ?_
 exact ⟨rfl, fB8⟩
set_option maxRecDepth 100000 in
set_option maxHeartbeats 8000000 in
theorem weigh_1 (ps : Nat → Pa) (qs : Nat → Fu) (bp oP np cp bq oq nq cq : Nat) (tx ux cx tf uf cf pa0 pa1 pa2 fa0 : Nat) (PA0 PA1 PA2 : Pa) (FA0 : Fu) (qv0 : Int) (oo : Nat → Int) (w : World) (hP : PaR w bp oP np ps) (hQ : FuR w bq oq nq qs) (hpi : ∀ i, i < np → PaIn (ps i)) (hqi : ∀ i, i < nq → FuIn (qs i)) (np1 : 1 ≤ np) (np8 : np ≤ 8) (nq1 : 1 ≤ nq) (nq4 : nq ≤ 4) (hX : Ii w (some ⟨tx, ux, none⟩) 3 cx [(pa0 : Int), (pa1 : Int), (pa2 : Int)]) (hF : Ii w (some ⟨tf, uf, none⟩) 1 cf [(fa0 : Int)]) (hpa0 : pa0 < np) (epa0 : ps pa0 = PA0) (hpa1 : pa1 < np) (epa1 : ps pa1 = PA1) (hpa2 : pa2 < np) (epa2 : ps pa2 = PA2) (hfa0 : fa0 < nq) (efa0 : qs fa0 = FA0) (hk0 : PA0.kind = 1) (hk1 : PA1.kind = 2) (hk2 : PA2.kind = 1) (hwh : FA0.pitch = (8000 : Int)) (gwh : 0 ≤ (8000 : Int) ∧ (8000 : Int) ≤ 100000000) (gw1 : 0 ≤ FA0.pitch ∧ FA0.pitch ≤ 10000) (hqv0 : (8000 : Int) / FA0.pitch = qv0) (gqv0 : 0 ≤ qv0 ∧ qv0 ≤ 100000000) (gqd0 : 0 ≤ qv0 * FA0.draw ∧ qv0 * FA0.draw ≤ 200000000) (gpi0 : 1000 ≤ FA0.pitch ∧ FA0.pitch ≤ 10000) (hsm : sumS oo (fun i => [(8000 : Int), qv0 * FA0.draw, (8000 : Int)].getD i 0) 3 = 4640000) (hoo : ∀ i, i < 3 → 0 ≤ oo i ∧ oo i ≤ 1200000) (hov0 : PA0.weight = oo 0) (hov1 : PA1.weight = oo 1) (hov2 : PA2.weight = oo 2) :
  Calls Try.prog 30 #[.agg #[.slice (some ⟨bp, oP, none⟩) (np) (cp), .slice (some ⟨bq, oq, none⟩) (nq) (cq)], .agg #[.slice (some ⟨tx, ux, none⟩) (3) (cx), .slice (some ⟨tf, uf, none⟩) (1) (cf)]] w (fun e w' => e = .returned (.tuple #[.agg #[.int .i64 580, .int .i64 1], .int .i64 0]) ∧ Below w.heap.size w w') := by
 refine calls_fr Try.func30 Try.ntmps30 rfl rfl fun g hg => ?_
 have k0 : g 0 = .agg #[.slice (some ⟨bp, oP, none⟩) (np) (cp), .slice (some ⟨bq, oq, none⟩) (nq) (cq)] := hg 0
 have k1 : g 1 = .agg #[.slice (some ⟨tx, ux, none⟩) (3) (cx), .slice (some ⟨tf, uf, none⟩) (1) (cf)] := hg 1
 clear hg
 have fB0 : Below w.heap.size w w := Below.refl _ _
 refine wp_seq_k fun K1 hK1 => ?_
 refine region_dk 4 [(2, 0), (3, 1), (4, 2), (5, 3)] [[], [], [], []] (rel [bx 0 #[.slice (some ⟨bp, oP, none⟩) (np) (cp), .slice (some ⟨bq, oq, none⟩) (nq) (cq)] 33,
   bx 1 #[.slice (some ⟨tx, ux, none⟩) (3) (cx), .slice (some ⟨tf, uf, none⟩) (1) (cf)] 46,
   bx 2 #[.int .i64 0, .int .i64 0] 86,
   is (.int .i64 0)])
  ⟨bx_k, bx_k, bx_k, is_k, trivial⟩
  ⟨fun f s W c d j k l a => opb rfl rfl (by simp [go_sem, a.e 0 k0]),
  fun f s W c d j k l a => opb rfl rfl (by simp [go_sem, a.e 1 k1]),
  fun f s W c d j k l a => opb rfl rfl (by simp [go_sem]),
  fun f s W c d j k l a => opv rfl rfl (by simp [go_sem]) rfl, trivial⟩ ?_
 intro f1 s1 W1 hB1 g1 hg1
 have fB1 := hB1.f fB0
 have z1 := hB1.below.size
 obtain ⟨r1_0, br1_0⟩ := hB1.is 0
 have lr1_0 := hB1.lr 0 br1_0
 obtain ⟨r1_1, br1_1⟩ := hB1.is 1
 have lr1_1 := hB1.lr 1 br1_1
 obtain ⟨r1_2, br1_2⟩ := hB1.is 2
 have lr1_2 := hB1.lr 2 br1_2
 have ne1_0_1 := hB1.nb 0 1
 have ne1_0_2 := hB1.nb 0 2
 have ne1_1_2 := hB1.nb 1 2
 refine hK1 _ _ ?_
 have k1_2 := kt hg1 2 r1_0
 have k1_3 := kt hg1 3 r1_1
 have k1_4 := kt hg1 4 r1_2
 have k1_5 := kt hg1 5 (hB1.is 3)
 refine wp_seq_k fun K2 hK2 => ?_
 refine region_dk 7 [(8, 0), (9, 1), (10, 2), (7, 3), (11, 4), (12, 5), (6, 6), (5, 8)] [[], [], [0, 1], [0, 1, 2], [0, 1, 2, 3], [0, 1, 2, 3], [], [0, 1, 2, 3, 4, 6], [0, 1, 2, 3, 4, 5, 6, 7]] (rel [is (.agg #[.slice (some ⟨bp, oP, none⟩) (np) (cp), .slice (some ⟨bq, oq, none⟩) (nq) (cq)]),
   is (.agg #[.slice (some ⟨tx, ux, none⟩) (3) (cx), .slice (some ⟨tf, uf, none⟩) (1) (cf)]),
   is (.tuple #[.agg #[.slice (some ⟨tx, ux, none⟩) (3) (cx), .slice (some ⟨tf, uf, none⟩) (1) (cf), .slice (some ⟨bp, oP, none⟩) (np) (cp), .slice (some ⟨bq, oq, none⟩) (nq) (cq), .int .i64 8000], .int .i64 0]),
   is (.tuple #[.agg #[.slice (some ⟨tx, ux, none⟩) (3) (cx), .slice (some ⟨tf, uf, none⟩) (1) (cf), .slice (some ⟨bp, oP, none⟩) (np) (cp), .slice (some ⟨bq, oq, none⟩) (nq) (cq), .int .i64 8000], .int .i64 0]),
   is (.agg #[.slice (some ⟨tx, ux, none⟩) (3) (cx), .slice (some ⟨tf, uf, none⟩) (1) (cf), .slice (some ⟨bp, oP, none⟩) (np) (cp), .slice (some ⟨bq, oq, none⟩) (nq) (cq), .int .i64 8000]),
   is (.int .i64 0),
   bx 6 #[.slice (none) (0) (0), .slice (none) (0) (0), .slice (none) (0) (0), .slice (none) (0) (0), .int .i64 0] 72])
  ⟨is_k, is_k, is_k, is_k, is_k, is_k, bx_k, trivial⟩
  ⟨fun f s W c d j k l a => opv rfl rfl (by simp [go_sem, a.e 2 k1_2, cb br1_0 c 0, cb br1_0 c 1]) rfl,
  fun f s W c d j k l a => opv rfl rfl (by simp [go_sem, a.e 3 k1_3, cb br1_1 c 0, cb br1_1 c 1]) rfl,
  fun f s W c d j k l a => by have m := below_trans fB1 c; exact opc rfl rfl (by simp [go_sem, a.e 8 (d 0 rfl), a.e 9 (d 1 rfl)]) (newSheet_1 ps qs bp oP np cp bq oq nq cq tx ux cx tf uf cf pa0 pa1 pa2 fa0 PA0 PA1 PA2 FA0 8000 W (hP.below m) (hQ.below m) hpi hqi np1 np8 nq1 nq4 (hX.below m (Nat.le_refl _)) (hF.below m (Nat.le_refl _)) hpa0 epa0 hpa1 epa1 hpa2 epa2 hfa0 efa0 hk0 hk1 hk2 hwh gwh gw1),
  fun f s W c d j k l a => opv rfl rfl (by simp [go_sem, a.e 10 (d 2 rfl)]) rfl,
  fun f s W c d j k l a => opv rfl rfl (by simp [go_sem, a.e 7 (d 3 rfl)]) rfl,
  fun f s W c d j k l a => opv rfl rfl (by simp [go_sem, a.e 7 (d 3 rfl)]) rfl,
  fun f s W c d j k l a => opb rfl rfl (by simp [go_sem]), trivial⟩ ?_
 intro f2 s2 W2 hB2 g2 hg2
 have fB2 := hB2.f fB1
 have z2 := hB2.below.size
 have b2_0 := hB2.b br1_0
 have b2_1 := hB2.b br1_1
 have b2_2 := hB2.b br1_2
 obtain ⟨r2_6, br2_6⟩ := hB2.is 6
 have lr2_6 := hB2.lr 6 br2_6
 have k2_4 := kt hg2 4 k1_4
 have k2_11 := kt hg2 11 (hB2.is 4)
 have k2_12 := kt hg2 12 (hB2.is 5)
 have k2_6 := kt hg2 6 r2_6
 obtain ⟨W3, hW3⟩ : ∃ W', W' = W2.setRow (s2 6) #[.slice (some ⟨tx, ux, none⟩) (3) (cx), .slice (some ⟨tf, uf, none⟩) (1) (cf), .slice (some ⟨bp, oP, none⟩) (np) (cp), .slice (some ⟨bq, oq, none⟩) (nq) (cq), .int .i64 8000] := ⟨_, rfl⟩
 refine tail_skip (o := _) rfl ⟨rfl, rfl⟩ (run_seg hW3 (fr_ev k2_6) (fr_ev k2_11) br2_6 rfl rfl rfl rfl) ?_
 obtain ⟨fB3, nb3, ot3, z3⟩ := seg_facts hW3 fB2 br2_6 (by omega)
 clear hW3
 have b3_0 := ot3 _ _ (by omega) b2_0
 have b3_1 := ot3 _ _ (by omega) b2_1
 have b3_2 := ot3 _ _ (by omega) b2_2
 refine tail_value (o := _) rfl rfl rfl (v := .int .i64 0) (by simp [go_sem, frv 22 k2_12]) ?_
 generalize hg4 : upd g2 5 (.int .i64 0) = g4
 have k4_4 := ku hg4 4 k2_4
 have k4_6 := ku hg4 6 k2_6
 have k4_5 := kt hg4 5 (upd_same _ _ _)
 refine wpOps_end ?_
 refine hK2 _ _ ?_
 refine wp_seq_k fun K3 hK3 => ?_
 refine wp_seq_k fun K4 hK4 => ?_
 refine region_dk 2 [(13, 0), (14, 1)] [[], [0]] (rel [is (.int .i64 0),
   is (.bool false)])
  ⟨is_k, is_k, trivial⟩
  ⟨fun f s W c d j k l a => opv rfl rfl (by simp [go_sem, a.e 5 k4_5]) rfl,
  fun f s W c d j k l a => opv rfl rfl (by simp [go_sem, a.e 13 (d 0 rfl)]) rfl, trivial⟩ ?_
 intro f5 s5 W5 hB5 g5 hg5
 have fB5 := hB5.f fB3
 have z5 := hB5.below.size
 have b5_0 := hB5.b b3_0
 have b5_1 := hB5.b b3_1
 have b5_2 := hB5.b b3_2
 have b5_3 := hB5.b nb3
 refine hK4 _ _ ?_
 have k5_4 := kt hg5 4 k4_4
 have k5_6 := kt hg5 6 k4_6
 have k5_5 := kt hg5 5 k4_5
 have k5_14 := kt hg5 14 (hB5.is 1)
 refine wp_cond_false ((fr_eval rfl).trans k5_14) ?_
 refine wp_skip ?_
 refine hK3 _ _ ?_
 refine wp_seq_k fun K6 hK6 => ?_
 refine region_dk 5 [(17, 0), (18, 1), (19, 2), (20, 3), (21, 4), (5, 6)] [[], [0], [], [2], [0, 1, 2, 3], [0, 1, 2, 3, 4], [0, 1, 2, 3, 4, 5]] (rel [is (.agg #[.slice (some ⟨tx, ux, none⟩) (3) (cx), .slice (some ⟨tf, uf, none⟩) (1) (cf), .slice (some ⟨bp, oP, none⟩) (np) (cp), .slice (some ⟨bq, oq, none⟩) (nq) (cq), .int .i64 8000]),
   is (.int .i64 4640000),
   is (.pointer (some ⟨(s2 6), 4, none⟩)),
   is (.int .i64 8000),
   is (.agg #[.int .i64 580, .int .i64 1])])
  ⟨is_k, is_k, is_k, is_k, is_k, trivial⟩
  ⟨fun f s W c d j k l a => opl rfl rfl rfl (a.v 6 k5_6) (blk_below b5_3 c) Try.underlying72 rfl (by kernel_rfl) rfl,
  fun f s W c d j k l a => by have m := below_trans fB5 c; exact opDo_call rfl rfl (by simp [go_sem, a.e 17 (d 0 rfl)]) (sumL_1 ps qs bp oP np cp bq oq nq cq tx ux cx tf uf cf pa0 pa1 pa2 fa0 PA0 PA1 PA2 FA0 8000 qv0 W (hP.below m) (hQ.below m) hpi hqi np1 np8 nq1 nq4 (hX.below m (Nat.le_refl _)) (hF.below m (Nat.le_refl _)) hpa0 epa0 hpa1 epa1 hpa2 epa2 hfa0 efa0 hk0 hk1 hk2 hwh gwh gw1 hqv0 gqv0 gqd0 gpi0 53 #[] (fun xs w => by simp [go_sem]) oo hoo (fun W' hb' => by rw [show (#[.agg #[.int .i64 PA0.kind, .int .i64 PA0.weight, .int .i64 PA0.t1, .int .i64 PA0.t2, .int .i64 PA0.m1, .int .i64 PA0.m2, .int .i64 PA0.price, .int .i64 PA0.strong]] ++ #[] : Array Value) = #[.agg #[.int .i64 PA0.kind, .int .i64 PA0.weight, .int .i64 PA0.t1, .int .i64 PA0.t2, .int .i64 PA0.m1, .int .i64 PA0.m2, .int .i64 PA0.price, .int .i64 PA0.strong]] from by simp, ← hov0]; exact weightP PA0 W') (fun W' hb' => by rw [show (#[.agg #[.int .i64 PA1.kind, .int .i64 PA1.weight, .int .i64 PA1.t1, .int .i64 PA1.t2, .int .i64 PA1.m1, .int .i64 PA1.m2, .int .i64 PA1.price, .int .i64 PA1.strong]] ++ #[] : Array Value) = #[.agg #[.int .i64 PA1.kind, .int .i64 PA1.weight, .int .i64 PA1.t1, .int .i64 PA1.t2, .int .i64 PA1.m1, .int .i64 PA1.m2, .int .i64 PA1.price, .int .i64 PA1.strong]] from by simp, ← hov1]; exact weightP PA1 W') (fun W' hb' => by rw [show (#[.agg #[.int .i64 PA2.kind, .int .i64 PA2.weight, .int .i64 PA2.t1, .int .i64 PA2.t2, .int .i64 PA2.m1, .int .i64 PA2.m2, .int .i64 PA2.price, .int .i64 PA2.strong]] ++ #[] : Array Value) = #[.agg #[.int .i64 PA2.kind, .int .i64 PA2.weight, .int .i64 PA2.t1, .int .i64 PA2.t2, .int .i64 PA2.m1, .int .i64 PA2.m2, .int .i64 PA2.price, .int .i64 PA2.strong]] from by simp, ← hov2]; exact weightP PA2 W')) ((fun e W' h => by have h1 := h.1; rw [hsm] at h1; exact ⟨_, h1, h.2, rfl⟩)),
  fun f s W c d j k l a => opv rfl rfl (by simp [go_sem, a.e 6 k5_6]) rfl,
  fun f s W c d j k l a => opv rfl rfl (by simp [go_sem, a.e 19 (d 2 rfl), cb b5_3 c 4]) rfl,
  fun f s W c d j k l a => opc rfl rfl (by simp [go_sem, a.e 18 (d 1 rfl), a.e 20 (d 3 rfl)]) (ratio_580 W), trivial⟩ ?_
 intro f6 s6 W6 hB6 g6 hg6
 have fB6 := hB6.f fB5
 have z6 := hB6.below.size
 have b6_0 := hB6.b b5_0
 have b6_1 := hB6.b b5_1
 have b6_2 := hB6.b b5_2
 have b6_3 := hB6.b b5_3
 have k6_4 := kt hg6 4 k5_4
 have k6_21 := kt hg6 21 (hB6.is 4)
 obtain ⟨W7, hW7⟩ : ∃ W', W' = W6.setRow (s1 2) #[.int .i64 580, .int .i64 1] := ⟨_, rfl⟩
 refine tail_skip (o := _) rfl ⟨rfl, rfl⟩ (run_seg hW7 (fr_ev k6_4) (fr_ev k6_21) b6_2 rfl rfl rfl rfl) ?_
 obtain ⟨fB7, nb7, ot7, z7⟩ := seg_facts hW7 fB6 b6_2 (by omega)
 clear hW7
 have b7_0 := ot7 _ _ (by omega) b6_0
 have b7_1 := ot7 _ _ (by omega) b6_1
 have b7_3 := ot7 _ _ (by omega) b6_3
 refine tail_value (o := _) rfl rfl rfl (v := .int .i64 0) (by simp [go_sem]) ?_
 generalize hg8 : upd g6 5 (.int .i64 0) = g8
 have k8_4 := ku hg8 4 k6_4
 have k8_5 := kt hg8 5 (upd_same _ _ _)
 refine wpOps_end ?_
 refine hK6 _ _ ?_
 refine wp_ret ?_
 refine leave_gen (v := .tuple #[.agg #[.int .i64 580, .int .i64 1], .int .i64 0]) (.inr rfl) (by simp [results, Try.results30, go_sem, frv 22 k8_4, cl nb7 0, cl nb7 1, frv 22 k8_5]) ?_
 exact ⟨rfl, fB7⟩
set_option maxRecDepth 100000 in
set_option maxHeartbeats 400000 in
theorem pubSpan_any (x y : Int) (w : World) :
  Calls Try.prog 22 #[.int .i64 x, .int .i64 y] w (fun e w' => e = .returned (.agg #[.int .i64 x, .int .i64 y]) ∧ Below w.heap.size w w') := by
 refine calls_fr Try.func22 Try.ntmps22 rfl rfl fun g hg => ?_
 have k0 : g 0 = .int .i64 x := hg 0
 have k1 : g 1 = .int .i64 y := hg 1
 clear hg
 have fB0 : Below w.heap.size w w := Below.refl _ _
 refine wp_seq_k fun K1 hK1 => ?_
 refine region_dk 1 [(4, 0)] [[]] (rel [bx 0 #[.int .i64 0, .int .i64 0] 40])
  ⟨bx_k, trivial⟩
  ⟨fun f s W c d h i j a => opb rfl rfl (by simp [go_sem]), trivial⟩ ?_
 intro f1 s1 W1 hB1 g1 hg1
 have fB1 := hB1.f fB0
 have z1 := hB1.below.size
 obtain ⟨r1_0, br1_0⟩ := hB1.is 0
 have lr1_0 := hB1.lr 0 br1_0
 refine hK1 _ _ ?_
 have k1_0 := kt hg1 0 k0
 have k1_1 := kt hg1 1 k1
 have k1_4 := kt hg1 4 r1_0
 refine wp_seq_k fun K2 hK2 => ?_
 refine region_dk 3 [(5, 0), (6, 1), (7, 2)] [[], [], [0, 1], [0, 1, 2]] (rel [is (.int .i64 x),
   is (.int .i64 y),
   is (.agg #[.int .i64 x, .int .i64 y])])
  ⟨is_k, is_k, is_k, trivial⟩
  ⟨fun f s W c d h i j a => opv rfl rfl (by simp [go_sem, a.e 0 k1_0]) rfl,
  fun f s W c d h i j a => opv rfl rfl (by simp [go_sem, a.e 1 k1_1]) rfl,
  fun f s W c d h i j a => opv rfl rfl (by simp [go_sem, a.e 5 (d 0 rfl), a.e 6 (d 1 rfl)]) rfl, trivial⟩ ?_
 intro f2 s2 W2 hB2 g2 hg2
 have fB2 := hB2.f fB1
 have z2 := hB2.below.size
 have b2_0 := hB2.b br1_0
 have k2_4 := kt hg2 4 k1_4
 have k2_7 := kt hg2 7 (hB2.is 2)
 obtain ⟨W3, hW3⟩ : ∃ W', W' = W2.setRow (s1 0) #[.int .i64 x, .int .i64 y] := ⟨_, rfl⟩
 refine tail_skip (o := _) rfl ⟨rfl, rfl⟩ (run_seg hW3 (fr_ev k2_4) (fr_ev k2_7) b2_0 rfl rfl rfl rfl) ?_
 obtain ⟨fB3, nb3, ot3, z3⟩ := seg_facts hW3 fB2 b2_0 (by omega)
 clear hW3
 refine wpOps_end ?_
 refine hK2 _ _ ?_
 refine wp_ret ?_
 refine leave_gen (v := .agg #[.int .i64 x, .int .i64 y]) (.inr rfl) (by simp [results, Try.results22, go_sem, frv 8 k2_4, cl nb3 0, cl nb3 1]) ?_
 exact ⟨rfl, fB3⟩
end Go.Proofs.Ytiocklgakklkpaa
namespace Go.Proofs.Ytiocklgakklkpaa
open Go.RowKit
end Go.Proofs.Ytiocklgakklkpaa
namespace Go.Proofs.Ytiocklgakklkpaa
open Go.RowKit
set_option maxRecDepth 100000 in
set_option maxHeartbeats 400000 in
theorem pubInts_any (a : Option Addr) (c : Nat) (xs : List Int) (w : World) (h : Ii w a xs.length c xs) (hn : xs.length ≤ 1000) :
  Calls Try.prog 17 #[.slice (a) (xs.length) (c)] w (fun e w' => ∃ v, e = .returned v ∧ NwIi w.heap.size xs v w' ∧ Below w.heap.size w w') := by
 refine calls_fr Try.func17 Try.ntmps17 rfl rfl fun g hg => ?_
 have k0 : g 0 = .slice (a) (xs.length) (c) := hg 0
 clear hg
 have fB0 : Below w.heap.size w w := Below.refl _ _
 refine wp_seq_k fun K1 hK1 => ?_
 refine region_dk 1 [(2, 0)] [[]] (rel [is (.slice (none) (0) (0))])
  ⟨is_k, trivial⟩
  ⟨fun f s W d i j k l b => opv rfl rfl (by simp [go_sem]) rfl, trivial⟩ ?_
 intro f1 s1 W1 hB1 g1 hg1
 have fB1 := hB1.f fB0
 have z1 := hB1.below.size
 refine hK1 _ _ ?_
 have k1_0 := kt hg1 0 k0
 have k1_2 := kt hg1 2 (hB1.is 0)
 refine wp_seq_k fun K2 hK2 => ?_
 refine region_dk 4 [(3, 0), (4, 1), (5, 2), (2, 3)] [[], [], [0, 1], [0, 1, 2]] (rel [row 0 0 #[] 3,
   is (.slice (a) (xs.length) (c)),
   ab fun v W => NwIi W1.heap.size (xs) v W,
   ab fun v W => NwIi W1.heap.size (xs) v W])
  ⟨row_k, is_k, ab_k fun v W W' hb h => h.below hb, ab_k fun v W W' hb h => h.below hb, trivial⟩
  ⟨fun f s W d i j k l b => opr rfl rfl (by simp [go_sem]),
  fun f s W d i j k l b => opv rfl rfl (by simp [go_sem, b.e 0 k1_0]) rfl,
  fun f s W d i j k l b => by have m := below_trans fB1 d; obtain ⟨v_, W_, r_, b_, i_⟩ := clone_run 35 W (s 0) (a) (c) (xs) ((h.below m (Nat.le_refl _))) (hn) (i 0 rfl).2 W1.heap.size (j 0 rfl) d.size; exact opDo_value rfl rfl (run_appendOp (b.v 3 (i 0 rfl).1) (b.v 4 (i 1 rfl)) r_) b_ i_,
  fun f s W d i j k l b => opv (v := (f 2)) rfl rfl (by simp [go_sem, (b.at' 5 rfl : l.tmps[5]?.getD undef = f 2)] <;> rfl) (i 2 rfl), trivial⟩ ?_
 intro f2 s2 W2 hB2 g2 hg2
 have fB2 := hB2.f fB1
 have z2 := hB2.below.size
 obtain ⟨r2_0, br2_0⟩ := hB2.is 0
 have lr2_0 := hB2.lr 0 br2_0
 obtain ⟨g21', c22', r2_3, q23', q25', q24'⟩ := hB2.is 3
 refine hK2 _ _ ?_
 have k2_2 := kt hg2 2 r2_3
 refine wp_ret ?_
 refine leave_one (N := 6) (v := .slice (some ⟨g21', 0, none⟩) ((xs).length) (c22')) (.inr rfl) Try.results17 rfl k2_2 ?_
 exact ⟨_, rfl, ⟨_, _, rfl, q23', (by omega), q24'⟩, fB2⟩
/-- A board whose lists are one's own. -/
def BoO (B n m : Nat) (xs ys : List Int) (v : Value) (W : World) : Prop := ∃ g1 c1 g2 c2, v = .agg #[.slice (some ⟨g1, 0, none⟩) n c1, .slice (some ⟨g2, 0, none⟩) m c2] ∧ OwnI B xs g1 c1 W ∧ OwnI B ys g2 c2 W
theorem BoO.below {B n m : Nat} {xs ys : List Int} {v : Value} {W W' : World} (h : BoO B n m xs ys v W) (hb : Below W.heap.size W W') : BoO B n m xs ys v W' := by
  obtain ⟨g1, c1, g2, c2, e, h1, h2⟩ := h
  exact ⟨g1, c1, g2, c2, e, h1.below hb, h2.below hb⟩
def BoOP (n m : Nat) (xs ys : List Int) (w : World) (e : Ending) (w' : World) : Prop := ∃ v, e = .returned v ∧ BoO w.heap.size n m xs ys v w' ∧ Below w.heap.size w w'
set_option maxRecDepth 100000 in
set_option maxHeartbeats 400000 in
theorem pubSingle_any (w : World) :
  Calls Try.prog 10 #[] w (BoOP 3 1 [0, 1, 2] [0] w) := by
 refine calls_fr Try.func10 Try.ntmps10 rfl rfl fun g hg => ?_
 clear hg
 have fB0 : Below w.heap.size w w := Below.refl _ _
 refine wp_seq_k fun K1 hK1 => ?_
 refine region_dk 1 [(0, 0)] [[]] (rel [bx 0 #[.slice (none) (0) (0), .slice (none) (0) (0)] 46])
  ⟨bx_k, trivial⟩
  ⟨fun f s W c d h i j a => opb rfl rfl (by simp [go_sem]), trivial⟩ ?_
 intro f1 s1 W1 hB1 g1 hg1
 have fB1 := hB1.f fB0
 have z1 := hB1.below.size
 obtain ⟨r1_0, br1_0⟩ := hB1.is 0
 have lr1_0 := hB1.lr 0 br1_0
 refine hK1 _ _ ?_
 have k1_0 := kt hg1 0 r1_0
 refine wp_seq_k fun K2 hK2 => ?_
 refine region_dk 3 [(1, 0), (2, 1), (3, 2)] [[], [], [0, 1], [0, 1, 2]] (rel [row 0 3 #[.int .i64 0, .int .i64 1, .int .i64 2] 3,
   row 1 1 #[.int .i64 0] 3,
   isS fun s => .agg #[.slice (some ⟨(s 0), 0, none⟩) (3) (3), .slice (some ⟨(s 1), 0, none⟩) (1) (1)]])
  ⟨row_k, row_k, isS_k fun s s' e => by rw [e 0 (by simp), e 1 (by simp)], trivial⟩
  ⟨fun f s W c d h i j a => opr rfl rfl (by simp [go_sem]),
  fun f s W c d h i j a => opr rfl rfl (by simp [go_sem]),
  fun f s W c d h i j a => opv rfl rfl (by simp [go_sem, a.e 1 (d 0 rfl).1, a.e 2 (d 1 rfl).1, upd]) rfl, trivial⟩ ?_
 intro f2 s2 W2 hB2 g2 hg2
 have fB2 := hB2.f fB1
 have z2 := hB2.below.size
 have b2_0 := hB2.b br1_0
 obtain ⟨r2_0, br2_0⟩ := hB2.is 0
 have lr2_0 := hB2.lr 0 br2_0
 obtain ⟨r2_1, br2_1⟩ := hB2.is 1
 have lr2_1 := hB2.lr 1 br2_1
 have ne2_0_1 := hB2.nb 0 1
 have k2_0 := kt hg2 0 k1_0
 have k2_3 := kt hg2 3 (hB2.is 2)
 obtain ⟨W3, hW3⟩ : ∃ W', W' = W2.setRow (s1 0) #[.slice (some ⟨(s2 0), 0, none⟩) (3) (3), .slice (some ⟨(s2 1), 0, none⟩) (1) (1)] := ⟨_, rfl⟩
 refine tail_skip (o := _) rfl ⟨rfl, rfl⟩ (run_seg hW3 (fr_ev k2_0) (fr_ev k2_3) b2_0 rfl rfl rfl rfl) ?_
 obtain ⟨fB3, nb3, ot3, z3⟩ := seg_facts hW3 fB2 b2_0 (by omega)
 clear hW3
 have b3_1 := ot3 _ _ (by omega) br2_0
 have b3_2 := ot3 _ _ (by omega) br2_1
 refine wpOps_end ?_
 refine hK2 _ _ ?_
 refine wp_ret ?_
 refine leave_gen (v := .agg #[.slice (some ⟨(s2 0), 0, none⟩) (3) (3), .slice (some ⟨(s2 1), 0, none⟩) (1) (1)]) (.inr rfl) (by simp [results, Try.results10, go_sem, frv 4 k2_0, cl nb3 0, cl nb3 1]) ?_
 exact ⟨_, rfl, ⟨_, _, _, _, rfl, ownI_lit (xs := [0, 1, 2]) b3_1 (by omega) rfl rfl, ownI_lit (xs := [0]) b3_2 (by omega) rfl rfl⟩, fB3⟩
set_option maxRecDepth 100000 in
set_option maxHeartbeats 400000 in
theorem pubDouble_any (w : World) :
  Calls Try.prog 11 #[] w (BoOP 5 2 [0, 1, 2, 1, 0] [0, 1] w) := by
 refine calls_fr Try.func11 Try.ntmps11 rfl rfl fun g hg => ?_
 clear hg
 have fB0 : Below w.heap.size w w := Below.refl _ _
 refine wp_seq_k fun K1 hK1 => ?_
 refine region_dk 1 [(0, 0)] [[]] (rel [bx 0 #[.slice (none) (0) (0), .slice (none) (0) (0)] 46])
  ⟨bx_k, trivial⟩
  ⟨fun f s W c d h i j a => opb rfl rfl (by simp [go_sem]), trivial⟩ ?_
 intro f1 s1 W1 hB1 g1 hg1
 have fB1 := hB1.f fB0
 have z1 := hB1.below.size
 obtain ⟨r1_0, br1_0⟩ := hB1.is 0
 have lr1_0 := hB1.lr 0 br1_0
 refine hK1 _ _ ?_
 have k1_0 := kt hg1 0 r1_0
 refine wp_seq_k fun K2 hK2 => ?_
 refine region_dk 3 [(1, 0), (2, 1), (3, 2)] [[], [], [0, 1], [0, 1, 2]] (rel [row 0 5 #[.int .i64 0, .int .i64 1, .int .i64 2, .int .i64 1, .int .i64 0] 3,
   row 1 2 #[.int .i64 0, .int .i64 1] 3,
   isS fun s => .agg #[.slice (some ⟨(s 0), 0, none⟩) (5) (5), .slice (some ⟨(s 1), 0, none⟩) (2) (2)]])
  ⟨row_k, row_k, isS_k fun s s' e => by rw [e 0 (by simp), e 1 (by simp)], trivial⟩
  ⟨fun f s W c d h i j a => opr rfl rfl (by simp [go_sem]),
  fun f s W c d h i j a => opr rfl rfl (by simp [go_sem]),
  fun f s W c d h i j a => opv rfl rfl (by simp [go_sem, a.e 1 (d 0 rfl).1, a.e 2 (d 1 rfl).1, upd]) rfl, trivial⟩ ?_
 intro f2 s2 W2 hB2 g2 hg2
 have fB2 := hB2.f fB1
 have z2 := hB2.below.size
 have b2_0 := hB2.b br1_0
 obtain ⟨r2_0, br2_0⟩ := hB2.is 0
 have lr2_0 := hB2.lr 0 br2_0
 obtain ⟨r2_1, br2_1⟩ := hB2.is 1
 have lr2_1 := hB2.lr 1 br2_1
 have ne2_0_1 := hB2.nb 0 1
 have k2_0 := kt hg2 0 k1_0
 have k2_3 := kt hg2 3 (hB2.is 2)
 obtain ⟨W3, hW3⟩ : ∃ W', W' = W2.setRow (s1 0) #[.slice (some ⟨(s2 0), 0, none⟩) (5) (5), .slice (some ⟨(s2 1), 0, none⟩) (2) (2)] := ⟨_, rfl⟩
 refine tail_skip (o := _) rfl ⟨rfl, rfl⟩ (run_seg hW3 (fr_ev k2_0) (fr_ev k2_3) b2_0 rfl rfl rfl rfl) ?_
 obtain ⟨fB3, nb3, ot3, z3⟩ := seg_facts hW3 fB2 b2_0 (by omega)
 clear hW3
 have b3_1 := ot3 _ _ (by omega) br2_0
 have b3_2 := ot3 _ _ (by omega) br2_1
 refine wpOps_end ?_
 refine hK2 _ _ ?_
 refine wp_ret ?_
 refine leave_gen (v := .agg #[.slice (some ⟨(s2 0), 0, none⟩) (5) (5), .slice (some ⟨(s2 1), 0, none⟩) (2) (2)]) (.inr rfl) (by simp [results, Try.results11, go_sem, frv 4 k2_0, cl nb3 0, cl nb3 1]) ?_
 exact ⟨_, rfl, ⟨_, _, _, _, rfl, ownI_lit (xs := [0, 1, 2, 1, 0]) b3_1 (by omega) rfl rfl, ownI_lit (xs := [0, 1]) b3_2 (by omega) rfl rfl⟩, fB3⟩
set_option maxRecDepth 100000 in
set_option maxHeartbeats 400000 in
theorem pubInts_own (a : Option Addr) (c nn : Nat) (xs : List Int) (w : World) (h : Ii w a nn c xs) (hn : nn ≤ 1000) (h0 : 0 < nn) :
  Calls Try.prog 17 #[.slice (a) (nn) (c)] w (OwIP xs nn w) := by
 refine calls_fr Try.func17 Try.ntmps17 rfl rfl fun g hg => ?_
 have k0 : g 0 = .slice (a) (nn) (c) := hg 0
 clear hg
 have fB0 : Below w.heap.size w w := Below.refl _ _
 refine wp_seq_k fun K1 hK1 => ?_
 refine region_dk 1 [(2, 0)] [[]] (rel [is (.slice (none) (0) (0))])
  ⟨is_k, trivial⟩
  ⟨fun f s W d i j l m b => opv rfl rfl (by simp [go_sem]) rfl, trivial⟩ ?_
 intro f1 s1 W1 hB1 g1 hg1
 have fB1 := hB1.f fB0
 have z1 := hB1.below.size
 refine hK1 _ _ ?_
 have k1_0 := kt hg1 0 k0
 have k1_2 := kt hg1 2 (hB1.is 0)
 refine wp_seq_k fun K2 hK2 => ?_
 refine region_dk 4 [(3, 0), (4, 1), (5, 2), (2, 3)] [[], [], [0, 1], [0, 1, 2]] (rel [row 0 0 #[] 3,
   is (.slice (a) (nn) (c)),
   fun v s W => OwI (s 2) (xs) nn v W,
   fun v s W => OwI (s 2) (xs) nn v W])
  ⟨row_k, is_k, ⟨fun v k W W' hb h => h.below hb, fun v s s' W e h => by have h' : OwI (s 2) (xs) nn v W := h; show OwI (s' 2) (xs) nn v W; rw [← e 2 (by simp)]; exact h'⟩, ⟨fun v k W W' hb h => h.below hb, fun v s s' W e h => by have h' : OwI (s 2) (xs) nn v W := h; show OwI (s' 2) (xs) nn v W; rw [← e 2 (by simp)]; exact h'⟩, trivial⟩
  ⟨fun f s W d i j l m b => opr rfl rfl (by simp [go_sem]),
  fun f s W d i j l m b => opv rfl rfl (by simp [go_sem, b.e 0 k1_0]) rfl,
  fun f s W d i j l m b => by have n := below_trans fB1 d; obtain ⟨v_, W_, r_, b_, i_⟩ := cloneO_run 35 W (s 0) (a) (c) (xs) nn ((h.below n (Nat.le_refl _))) (hn) (h0) (i 0 rfl).2; exact opDo_value rfl rfl (run_appendOp (b.v 3 (i 0 rfl).1) (b.v 4 (i 1 rfl)) r_) b_ (show OwI (upd s 2 W.heap.size 2) (xs) nn v_ W_ from by rw [upd_at]; exact i_),
  fun f s W d i j l m b => opv (v := (f 2)) rfl rfl (by simp [go_sem, (b.at' 5 rfl : m.tmps[5]?.getD undef = f 2)] <;> rfl) (i 2 rfl), trivial⟩ ?_
 intro f2 s2 W2 hB2 g2 hg2
 have fB2 := hB2.f fB1
 have z2 := hB2.below.size
 obtain ⟨r2_0, br2_0⟩ := hB2.is 0
 have lr2_0 := hB2.lr 0 br2_0
 obtain ⟨g53', c54', r2_3, q55'⟩ := hB2.is 3
 have la2_3 := hB2.from' 2 (by decide)
 have lo2_3_o := q55'.lim
 have q56' := q55'.low (B' := w.heap.size) (Nat.le_trans fB1.size (la2_3))
 refine hK2 _ _ ?_
 have k2_2 := kt hg2 2 r2_3
 refine wp_ret ?_
 refine leave_one (N := 6) (v := .slice (some ⟨g53', 0, none⟩) (nn) (c54')) (.inr rfl) Try.results17 rfl k2_2 ?_
 exact ⟨_, rfl, ⟨_, _, rfl, q56'⟩, fB2⟩
end Go.Proofs.Ytiocklgakklkpaa
namespace Go.Proofs.Ytiocklgakklkpaa
open Go.RowKit
end Go.Proofs.Ytiocklgakklkpaa
namespace Go.Proofs.Ytiocklgakklkpaa
open Go.RowKit
/-- The store of the tops is valid, and its kinds are those of a board. -/
structure FoldIn (ps : Nat → Pa) (qs : Nat → Fu) : Prop where
  p : ∀ i, i < 3 → PaIn (ps i)
  q : ∀ i, i < 2 → FuIn (qs i)
  k0 : (ps 0).kind = 1
  k1 : (ps 1).kind = 2
  k2 : (ps 2).kind = 1
def o1 (p : Pa) : Int := p.weight * (1000 + p.m1)
def o2 (p : Pa) : Int := p.weight * (1000 + p.m2)
def s1S (a b c : Int) (f : Fu) : Int := sumS (fun i => [a, b, c].getD i 0) (fun i => [f.pitch, 1 * f.draw, f.pitch].getD i 0) 3
def s2S (a b c : Int) (f g : Fu) : Int := sumS (fun i => [a, b, c, b, a].getD i 0) (fun i => [f.pitch * g.pitch, g.pitch * f.draw, f.pitch * g.pitch, f.pitch * g.draw, f.pitch * g.pitch].getD i 0) 5
/-- What a board with one flute weighs, and one with two. -/
def w1S (a b c : Int) (f : Fu) : Int := s1S a b c f / (1000 * f.pitch)
def w2S (a b c : Int) (f g : Fu) : Int := s2S a b c f g / (1000 * (f.pitch * g.pitch))
def lo1 (ps : Nat → Pa) (qs : Nat → Fu) : Int := (((ps 0).t1 + (ps 2).t1) + (qs 0).h1)
def hi1 (ps : Nat → Pa) (qs : Nat → Fu) : Int := (((ps 0).t2 + (ps 2).t2) + (qs 0).h2)
def lo2 (ps : Nat → Pa) (qs : Nat → Fu) : Int := (((((ps 0).t1 + (ps 2).t1) + (ps 0).t1) + (qs 0).h1) + (qs 1).h1)
def hi2 (ps : Nat → Pa) (qs : Nat → Fu) : Int := (((((ps 0).t2 + (ps 2).t2) + (ps 0).t2) + (qs 0).h2) + (qs 1).h2)
theorem prod_bd {a b A B : Int} (h1 : 0 ≤ a ∧ a ≤ A) (h2 : 0 ≤ b ∧ b ≤ B) : 0 ≤ a * b ∧ a * b ≤ A * B :=
  ⟨Int.mul_nonneg h1.1 h2.1, Int.mul_le_mul h1.2 h2.2 h2.1 (by omega)⟩
theorem o1_bd {p : Pa} (h : PaIn p) : 0 ≤ o1 p ∧ o1 p ≤ 1200000 := by
  have := h.weight; have := h.moist
  exact prod_bd (A := 1000) (B := 1200) (by omega) (by omega)
theorem o2_bd {p : Pa} (h : PaIn p) : 0 ≤ o2 p ∧ o2 p ≤ 1200000 := by
  have := h.weight; have := h.moist
  exact prod_bd (A := 1000) (B := 1200) (by omega) (by omega)
theorem div_bd {a b : Int} (ha : 0 ≤ a ∧ a ≤ 10000000000000000) (hb : 1 ≤ b) : 0 ≤ a / b ∧ a / b ≤ 10000000000000000 := by
  refine ⟨Int.ediv_nonneg ha.1 (by omega), ?_⟩
  have := Int.ediv_le_self b ha.1
  omega
theorem getD3 {p : Int → Prop} {a b c : Int} (h0 : p a) (h1 : p b) (h2 : p c) : ∀ i, i < 3 → p ([a, b, c].getD i 0) := fun i hi => by
  match i, hi with
  | 0, _ => exact h0
  | 1, _ => exact h1
  | 2, _ => exact h2
theorem getD5 {p : Int → Prop} {a b c d e : Int} (h0 : p a) (h1 : p b) (h2 : p c) (h3 : p d) (h4 : p e) : ∀ i, i < 5 → p ([a, b, c, d, e].getD i 0) := fun i hi => by
  match i, hi with
  | 0, _ => exact h0
  | 1, _ => exact h1
  | 2, _ => exact h2
  | 3, _ => exact h3
  | 4, _ => exact h4
theorem s1S_bd {a b c : Int} {f : Fu} (hf : FuIn f) (ha : 0 ≤ a ∧ a ≤ 1200000) (hb : 0 ≤ b ∧ b ≤ 1200000) (hc : 0 ≤ c ∧ c ≤ 1200000) : 0 ≤ s1S a b c f ∧ s1S a b c f ≤ 10000000000000000 := by
  have := hf.pitch; have := hf.draw
  have h := sumS_bd (o := fun i => [a, b, c].getD i 0) (p := fun i => [f.pitch, 1 * f.draw, f.pitch].getD i 0) (m := 3) (fun i hi => by
    have := prod_bd (A := 1200000) (B := 200000000) (getD3 (p := fun x => 0 ≤ x ∧ x ≤ 1200000) ha hb hc i hi) (getD3 (p := fun x => 0 ≤ x ∧ x ≤ 200000000) (a := f.pitch) (b := 1 * f.draw) (c := f.pitch) (by omega) (by omega) (by omega) i hi)
    omega) 3 (Nat.le_refl _)
  unfold s1S
  omega
theorem s2S_bd {a b c : Int} {f g : Fu} (hf : FuIn f) (hg : FuIn g) (ha : 0 ≤ a ∧ a ≤ 1200000) (hb : 0 ≤ b ∧ b ≤ 1200000) (hc : 0 ≤ c ∧ c ≤ 1200000) : 0 ≤ s2S a b c f g ∧ s2S a b c f g ≤ 10000000000000000 := by
  have := hf.pitch; have := hf.draw; have := hg.pitch; have := hg.draw
  have e1 := prod_bd (a := f.pitch) (b := g.pitch) (A := 10000) (B := 10000) (by omega) (by omega)
  have e2 := prod_bd (a := g.pitch) (b := f.draw) (A := 10000) (B := 20000) (by omega) (by omega)
  have e3 := prod_bd (a := f.pitch) (b := g.draw) (A := 10000) (B := 20000) (by omega) (by omega)
  have h := sumS_bd (o := fun i => [a, b, c, b, a].getD i 0) (p := fun i => [f.pitch * g.pitch, g.pitch * f.draw, f.pitch * g.pitch, f.pitch * g.draw, f.pitch * g.pitch].getD i 0) (m := 5) (fun i hi => by
    have := prod_bd (A := 1200000) (B := 200000000) (getD5 (p := fun x => 0 ≤ x ∧ x ≤ 1200000) ha hb hc hb ha i hi) (getD5 (p := fun x => 0 ≤ x ∧ x ≤ 200000000) (a := f.pitch * g.pitch) (b := g.pitch * f.draw) (c := f.pitch * g.pitch) (d := f.pitch * g.draw) (e := f.pitch * g.pitch) (by omega) (by omega) (by omega) (by omega) (by omega) i hi)
    omega) 5 (Nat.le_refl _)
  unfold s2S
  omega
theorem measure_s {ps : Nat → Pa} {qs : Nat → Fu} (hI : FoldIn ps qs) (g1 c1 g2 c2 x1 d1 x2 d2 : Nat) (w : World) (hP : PaR w g1 0 3 ps) (hQ : FuR w g2 0 2 qs) (hX : Ii w (some ⟨x1, 0, none⟩) 3 d1 [0, 1, 2]) (hF : Ii w (some ⟨x2, 0, none⟩) 1 d2 [0]) :
    Calls Try.prog 8 #[.agg #[.slice (some ⟨g1, 0, none⟩) 3 c1, .slice (some ⟨g2, 0, none⟩) 2 c2], .agg #[.slice (some ⟨x1, 0, none⟩) 3 d1, .slice (some ⟨x2, 0, none⟩) 1 d2]] w (fun e w' => e = .returned (.tuple #[.agg #[.int .i64 (w1S (o1 (ps 0)) (o1 (ps 1)) (o1 (ps 2)) (qs 0)), .int .i64 (w1S (o2 (ps 0)) (o2 (ps 1)) (o2 (ps 2)) (qs 0))], .agg #[.int .i64 (lo1 ps qs), .int .i64 (hi1 ps qs)], .int .i64 0]) ∧ Below w.heap.size w w') := by
  have hf := hI.q 0 (by decide); have hg := hI.q 1 (by decide)
  have := hf.pitch; have := hf.draw; have := hg.pitch; have := hg.draw
  have e1 := prod_bd (a := (qs 0).pitch) (b := (qs 1).pitch) (A := 10000) (B := 10000) (by omega) (by omega)
  have e2 := prod_bd (a := (qs 1).pitch) (b := (qs 0).draw) (A := 10000) (B := 20000) (by omega) (by omega)
  have e3 := prod_bd (a := (qs 0).pitch) (b := (qs 1).draw) (A := 10000) (B := 20000) (by omega) (by omega)
  have e4 : 1000 * 1000 ≤ (qs 0).pitch * (qs 1).pitch := Int.mul_le_mul (by omega) (by omega) (by decide) (by omega)
  have a0 := o1_bd (hI.p 0 (by decide)); have a1 := o1_bd (hI.p 1 (by decide)); have a2 := o1_bd (hI.p 2 (by decide))
  have b0 := o2_bd (hI.p 0 (by decide)); have b1 := o2_bd (hI.p 1 (by decide)); have b2 := o2_bd (hI.p 2 (by decide))
  have hsa := s1S_bd hf  a0 a1 a2
  have hsb := s1S_bd hf  b0 b1 b2
  exact Measure_1 (ps) (qs) (g1) (0) (3) (c1) (g2) (0) (2) (c2) (x1) (0) (d1) (x2) (0) (d2) (0) (1) (2) (0) (ps 0) (ps 1) (ps 2) (qs 0) ((qs 0).pitch) (1) (s1S (o1 (ps 0)) (o1 (ps 1)) (o1 (ps 2)) (qs 0)) (s1S (o2 (ps 0)) (o2 (ps 1)) (o2 (ps 2)) (qs 0)) (w1S (o1 (ps 0)) (o1 (ps 1)) (o1 (ps 2)) (qs 0)) (w1S (o2 (ps 0)) (o2 (ps 1)) (o2 (ps 2)) (qs 0)) (lo1 ps qs) (hi1 ps qs) (fun i => [o1 (ps 0), o1 (ps 1), o1 (ps 2)].getD i 0) (fun i => [o2 (ps 0), o2 (ps 1), o2 (ps 2)].getD i 0) (w) (hP) (hQ) (hI.p) (hI.q) (by decide) (by decide) (by decide) (by decide) (hX) (hF) (by decide) (rfl) (by decide) (rfl) (by decide) (rfl) (by decide) (rfl) (hI.k0) (hI.k1) (hI.k2) (rfl) (by omega) (by omega) (Int.ediv_self (by omega)) (by omega) (by omega) (by omega) (by omega) (rfl) (hsa) (rfl) (div_bd hsa (by omega)) (getD3 (p := fun x => 0 ≤ x ∧ x ≤ 1200000) a0 a1 a2) (rfl) (rfl) (rfl) (rfl) (rfl) (hsb) (rfl) (div_bd hsb (by omega)) (getD3 (p := fun x => 0 ≤ x ∧ x ≤ 1200000) b0 b1 b2) (rfl) (rfl) (rfl) (rfl)
theorem measure_d {ps : Nat → Pa} {qs : Nat → Fu} (hI : FoldIn ps qs) (g1 c1 g2 c2 x1 d1 x2 d2 : Nat) (w : World) (hP : PaR w g1 0 3 ps) (hQ : FuR w g2 0 2 qs) (hX : Ii w (some ⟨x1, 0, none⟩) 5 d1 [0, 1, 2, 1, 0]) (hF : Ii w (some ⟨x2, 0, none⟩) 2 d2 [0, 1]) :
    Calls Try.prog 8 #[.agg #[.slice (some ⟨g1, 0, none⟩) 3 c1, .slice (some ⟨g2, 0, none⟩) 2 c2], .agg #[.slice (some ⟨x1, 0, none⟩) 5 d1, .slice (some ⟨x2, 0, none⟩) 2 d2]] w (fun e w' => e = .returned (.tuple #[.agg #[.int .i64 (w2S (o1 (ps 0)) (o1 (ps 1)) (o1 (ps 2)) (qs 0) (qs 1)), .int .i64 (w2S (o2 (ps 0)) (o2 (ps 1)) (o2 (ps 2)) (qs 0) (qs 1))], .agg #[.int .i64 (lo2 ps qs), .int .i64 (hi2 ps qs)], .int .i64 0]) ∧ Below w.heap.size w w') := by
  have hf := hI.q 0 (by decide); have hg := hI.q 1 (by decide)
  have := hf.pitch; have := hf.draw; have := hg.pitch; have := hg.draw
  have e1 := prod_bd (a := (qs 0).pitch) (b := (qs 1).pitch) (A := 10000) (B := 10000) (by omega) (by omega)
  have e2 := prod_bd (a := (qs 1).pitch) (b := (qs 0).draw) (A := 10000) (B := 20000) (by omega) (by omega)
  have e3 := prod_bd (a := (qs 0).pitch) (b := (qs 1).draw) (A := 10000) (B := 20000) (by omega) (by omega)
  have e4 : 1000 * 1000 ≤ (qs 0).pitch * (qs 1).pitch := Int.mul_le_mul (by omega) (by omega) (by decide) (by omega)
  have a0 := o1_bd (hI.p 0 (by decide)); have a1 := o1_bd (hI.p 1 (by decide)); have a2 := o1_bd (hI.p 2 (by decide))
  have b0 := o2_bd (hI.p 0 (by decide)); have b1 := o2_bd (hI.p 1 (by decide)); have b2 := o2_bd (hI.p 2 (by decide))
  have hsa := s2S_bd hf hg a0 a1 a2
  have hsb := s2S_bd hf hg b0 b1 b2
  exact Measure_2 (ps) (qs) (g1) (0) (3) (c1) (g2) (0) (2) (c2) (x1) (0) (d1) (x2) (0) (d2) (0) (1) (2) (1) (0) (0) (1) (ps 0) (ps 1) (ps 2) (ps 1) (ps 0) (qs 0) (qs 1) ((qs 0).pitch * (qs 1).pitch) ((qs 1).pitch) ((qs 0).pitch) (s2S (o1 (ps 0)) (o1 (ps 1)) (o1 (ps 2)) (qs 0) (qs 1)) (s2S (o2 (ps 0)) (o2 (ps 1)) (o2 (ps 2)) (qs 0) (qs 1)) (w2S (o1 (ps 0)) (o1 (ps 1)) (o1 (ps 2)) (qs 0) (qs 1)) (w2S (o2 (ps 0)) (o2 (ps 1)) (o2 (ps 2)) (qs 0) (qs 1)) (lo2 ps qs) (hi2 ps qs) (fun i => [o1 (ps 0), o1 (ps 1), o1 (ps 2), o1 (ps 1), o1 (ps 0)].getD i 0) (fun i => [o2 (ps 0), o2 (ps 1), o2 (ps 2), o2 (ps 1), o2 (ps 0)].getD i 0) (w) (hP) (hQ) (hI.p) (hI.q) (by decide) (by decide) (by decide) (by decide) (hX) (hF) (by decide) (rfl) (by decide) (rfl) (by decide) (rfl) (by decide) (rfl) (by decide) (rfl) (by decide) (rfl) (by decide) (rfl) (hI.k0) (hI.k1) (hI.k2) (hI.k1) (hI.k0) (rfl) (by omega) (by omega) (Int.mul_ediv_cancel_left _ (by omega)) (by omega) (by omega) (by omega) (Int.mul_ediv_cancel _ (by omega)) (by omega) (by omega) (by omega) (by omega) (rfl) (hsa) (rfl) (div_bd hsa (by omega)) (getD5 (p := fun x => 0 ≤ x ∧ x ≤ 1200000) a0 a1 a2 a1 a0) (rfl) (rfl) (rfl) (rfl) (rfl) (rfl) (rfl) (hsb) (rfl) (div_bd hsb (by omega)) (getD5 (p := fun x => 0 ≤ x ∧ x ≤ 1200000) b0 b1 b2 b1 b0) (rfl) (rfl) (rfl) (rfl) (rfl) (rfl)
theorem lo1_in {ps : Nat → Pa} {qs : Nat → Fu} (hI : FoldIn ps qs) : 1 ≤ lo1 ps qs ∧ lo1 ps qs ≤ hi1 ps qs := by
  have t0 := (hI.p 0 (by decide)).thick; have t2 := (hI.p 2 (by decide)).thick; have u0 := (hI.q 0 (by decide)).high; have u1 := (hI.q 1 (by decide)).high
  unfold lo1 hi1; omega
theorem lo2_in {ps : Nat → Pa} {qs : Nat → Fu} (hI : FoldIn ps qs) : 1 ≤ lo2 ps qs ∧ lo2 ps qs ≤ hi2 ps qs := by
  have t0 := (hI.p 0 (by decide)).thick; have t2 := (hI.p 2 (by decide)).thick; have u0 := (hI.q 0 (by decide)).high; have u1 := (hI.q 1 (by decide)).high
  unfold lo2 hi2; omega
end Go.Proofs.Ytiocklgakklkpaa
