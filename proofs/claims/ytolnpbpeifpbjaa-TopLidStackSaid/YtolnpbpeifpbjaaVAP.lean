/- Part of the proof: what the claim leans on. -/
import Derived.Test.YtolnpbpeifpbjaaVAL
import Derived.Test.YtolnpbpeifpbjaaVAM
set_option maxHeartbeats 8000000
set_option maxRecDepth 100000
set_option linter.unusedSimpArgs false
set_option linter.unusedVariables false
namespace Go.Proofs.Ytolnpbpeifpbjaa
open Go.RowKit
theorem low_ok (x y : Int) (w : World) :
  Calls Try.prog 56 #[.agg #[.int .i64 x, .int .i64 y]] w (fun e w' => e = .returned (.int .i64 x) ∧ Below w.heap.size w w') := by
 refine calls_fr Try.func56 Try.ntmps56 rfl rfl fun g hg => ?_
 have k0 : g 0 = .agg #[.int .i64 x, .int .i64 y] := hg 0
 clear hg
 have fB0 : Below w.heap.size w w := Below.refl _ _
 refine rw_ 2 [(1, 0), (2, 1)] [[], []] (rel [bx 0 #[.int .i64 x, .int .i64 y] 62, iI 0])
  ⟨fun f s W c d h i j a => opb rfl rfl (by simp [go_sem, a.e 0 k0]),
  fun f s W c d h i j a => opz, trivial⟩ ?_
 intro f1 s1 W1 hB1 g1 hg1 z1
 obtain ⟨r1_0, br1_0⟩ := hB1.is 0
 have lr1_0 := hB1.lr 0 br1_0
 have k1_1 := kt hg1 1 r1_0
 refine rw_ 3 [(3, 0), (4, 1), (2, 2)] [[], [0], [1]] (rel [is (.pointer (some ⟨(s1 0), 0, none⟩)), iI x, iI x])
  ⟨fun f s W c d h i j a => opv rfl rfl (by simp [go_sem, a.e 1 k1_1]) rfl,
  fun f s W c d h i j a => opv rfl rfl (by simp [go_sem, a.e 3 (d 0 rfl), cb br1_0 c 0]) rfl,
  fun f s W c d h i j a => opm (a.v 4 (d 1 rfl)), trivial⟩ ?_
 intro f2 s2 W2 hB2 g2 hg2 z2
 have fB2 := hB2.f (hB1.f fB0)
 have k2_2 := kt hg2 2 (hB2.is 2)
 refine wp_ret ?_
 refine leave_one (N := 5) (.inr rfl) Try.results56 rfl k2_2 ?_
 exact ⟨rfl, fB2⟩
theorem moistP_1 (p : Pa) (hin : PaIn p) (bz : Nat) (w : World) (hz' : w.heap[bz]? = some (.cells #[.func (.func 56) #[] #[]] 131 (0, 0))) (gm : 0 ≤ p.weight * (1000 + p.m1) ∧ p.weight * (1000 + p.m1) ≤ 1200000) :
  Calls Try.prog 83 #[.agg #[.int .i64 p.kind, .int .i64 p.weight, .int .i64 p.t1, .int .i64 p.t2, .int .i64 p.m1, .int .i64 p.m2, .int .i64 p.price, .int .i64 p.strong], .pointer (some ⟨bz, 0, none⟩)] w (fun e w' => e = .returned (.int .i64 (p.weight * (1000 + p.m1))) ∧ Below w.heap.size w w') := by
 have gm1 := hin.moist
 have gm2 := hin.weight
 refine calls_fr Try.func83 Try.ntmps83 rfl rfl fun g hg => ?_
 have k0 : g 0 = .agg #[.int .i64 p.kind, .int .i64 p.weight, .int .i64 p.t1, .int .i64 p.t2, .int .i64 p.m1, .int .i64 p.m2, .int .i64 p.price, .int .i64 p.strong] := hg 0
 have k1 : g 1 = .pointer (some ⟨bz, 0, none⟩) := hg 1
 clear hg
 have fB0 : Below w.heap.size w w := Below.refl _ _
 have lt_bz := ltb hz'
 refine rw_ 2 [(2, 0), (3, 1)] [[], []] (rel [bx 0 #[.int .i64 p.kind, .int .i64 p.weight, .int .i64 p.t1, .int .i64 p.t2, .int .i64 p.m1, .int .i64 p.m2, .int .i64 p.price, .int .i64 p.strong] 103, iI 0])
  ⟨fun f s W c d h i j a => opb rfl rfl (by simp [go_sem, a.e 0 k0]),
  fun f s W c d h i j a => opz, trivial⟩ ?_
 intro f1 s1 W1 hB1 g1 hg1 z1
 have b1_0 := hB1.b hz'
 obtain ⟨r1_0, br1_0⟩ := hB1.is 0
 have lr1_0 := hB1.lr 0 br1_0
 have k1_1 := kt hg1 1 k1
 have k1_2 := kt hg1 2 r1_0
 refine rw_ 9 [(4, 0), (5, 1), (6, 2), (7, 3), (8, 4), (9, 5), (10, 6), (11, 7), (3, 8)] [[], [0], [], [], [3], [2, 4], [5], [1, 6], [7]] (rel [is (.pointer (some ⟨(s1 0), 1, none⟩)), iI p.weight, is (.func (.func 56) #[] #[]), is (.pointer (some ⟨(s1 0), 4, none⟩)), is (.agg #[.int .i64 p.m1, .int .i64 p.m2]), iI p.m1, iI (1000 + p.m1), iI (p.weight * (1000 + p.m1)), iI (p.weight * (1000 + p.m1))])
  ⟨fun f s W c d h i j a => opv rfl rfl (by simp [go_sem, a.e 2 k1_2]) rfl,
  fun f s W c d h i j a => opv rfl rfl (by simp [go_sem, a.e 4 (d 0 rfl), cb br1_0 c 1]) rfl,
  fun f s W c d h i j a => opv rfl rfl (by simp [go_sem, a.e 1 k1_1, cb b1_0 c 0]) rfl,
  fun f s W c d h i j a => opv rfl rfl (by simp [go_sem, a.e 2 k1_2]) rfl,
  fun f s W c d h i j a => opv rfl rfl (by simp [go_sem, a.e 7 (d 3 rfl), cb br1_0 c 4, cb br1_0 c 5]) rfl,
  fun f s W c d h i j a => opc rfl rfl (by simp [go_sem, a.e 8 (d 4 rfl), a.e 6 (d 2 rfl)]) (low_ok (p.m1) (p.m2) W),
  fun f s W c d h i j a => opv rfl rfl (by simp [go_sem, a.e 9 (d 5 rfl), IntWalk.i64_in (1000 + p.m1) (by omega)]) rfl,
  fun f s W c d h i j a => opv rfl rfl (by simp [go_sem, a.e 5 (d 1 rfl), a.e 10 (d 6 rfl), IntWalk.i64_in (p.weight * (1000 + p.m1)) (by omega)]) rfl,
  fun f s W c d h i j a => opm (a.v 11 (d 7 rfl)), trivial⟩ ?_
 intro f2 s2 W2 hB2 g2 hg2 z2
 have fB2 := hB2.f (hB1.f fB0)
 have k2_3 := kt hg2 3 (hB2.is 8)
 refine wp_ret ?_
 refine leave_one (N := 12) (.inr rfl) Try.results83 rfl k2_3 ?_
 exact ⟨rfl, fB2⟩
theorem high_ok (x y : Int) (w : World) :
  Calls Try.prog 57 #[.agg #[.int .i64 x, .int .i64 y]] w (fun e w' => e = .returned (.int .i64 y) ∧ Below w.heap.size w w') := by
 refine calls_fr Try.func57 Try.ntmps57 rfl rfl fun g hg => ?_
 have k0 : g 0 = .agg #[.int .i64 x, .int .i64 y] := hg 0
 clear hg
 have fB0 : Below w.heap.size w w := Below.refl _ _
 refine rw_ 2 [(1, 0), (2, 1)] [[], []] (rel [bx 0 #[.int .i64 x, .int .i64 y] 62, iI 0])
  ⟨fun f s W c d h i j a => opb rfl rfl (by simp [go_sem, a.e 0 k0]),
  fun f s W c d h i j a => opz, trivial⟩ ?_
 intro f1 s1 W1 hB1 g1 hg1 z1
 obtain ⟨r1_0, br1_0⟩ := hB1.is 0
 have lr1_0 := hB1.lr 0 br1_0
 have k1_1 := kt hg1 1 r1_0
 refine rw_ 3 [(3, 0), (4, 1), (2, 2)] [[], [0], [1]] (rel [is (.pointer (some ⟨(s1 0), 1, none⟩)), iI y, iI y])
  ⟨fun f s W c d h i j a => opv rfl rfl (by simp [go_sem, a.e 1 k1_1]) rfl,
  fun f s W c d h i j a => opv rfl rfl (by simp [go_sem, a.e 3 (d 0 rfl), cb br1_0 c 1]) rfl,
  fun f s W c d h i j a => opm (a.v 4 (d 1 rfl)), trivial⟩ ?_
 intro f2 s2 W2 hB2 g2 hg2 z2
 have fB2 := hB2.f (hB1.f fB0)
 have k2_2 := kt hg2 2 (hB2.is 2)
 refine wp_ret ?_
 refine leave_one (N := 5) (.inr rfl) Try.results57 rfl k2_2 ?_
 exact ⟨rfl, fB2⟩
theorem moistP_2 (p : Pa) (hin : PaIn p) (bz : Nat) (w : World) (hz' : w.heap[bz]? = some (.cells #[.func (.func 57) #[] #[]] 131 (0, 0))) (gm : 0 ≤ p.weight * (1000 + p.m2) ∧ p.weight * (1000 + p.m2) ≤ 1200000) :
  Calls Try.prog 83 #[.agg #[.int .i64 p.kind, .int .i64 p.weight, .int .i64 p.t1, .int .i64 p.t2, .int .i64 p.m1, .int .i64 p.m2, .int .i64 p.price, .int .i64 p.strong], .pointer (some ⟨bz, 0, none⟩)] w (fun e w' => e = .returned (.int .i64 (p.weight * (1000 + p.m2))) ∧ Below w.heap.size w w') := by
 have gm1 := hin.moist
 have gm2 := hin.weight
 refine calls_fr Try.func83 Try.ntmps83 rfl rfl fun g hg => ?_
 have k0 : g 0 = .agg #[.int .i64 p.kind, .int .i64 p.weight, .int .i64 p.t1, .int .i64 p.t2, .int .i64 p.m1, .int .i64 p.m2, .int .i64 p.price, .int .i64 p.strong] := hg 0
 have k1 : g 1 = .pointer (some ⟨bz, 0, none⟩) := hg 1
 clear hg
 have fB0 : Below w.heap.size w w := Below.refl _ _
 have lt_bz := ltb hz'
 refine rw_ 2 [(2, 0), (3, 1)] [[], []] (rel [bx 0 #[.int .i64 p.kind, .int .i64 p.weight, .int .i64 p.t1, .int .i64 p.t2, .int .i64 p.m1, .int .i64 p.m2, .int .i64 p.price, .int .i64 p.strong] 103, iI 0])
  ⟨fun f s W c d h i j a => opb rfl rfl (by simp [go_sem, a.e 0 k0]),
  fun f s W c d h i j a => opz, trivial⟩ ?_
 intro f1 s1 W1 hB1 g1 hg1 z1
 have b1_0 := hB1.b hz'
 obtain ⟨r1_0, br1_0⟩ := hB1.is 0
 have lr1_0 := hB1.lr 0 br1_0
 have k1_1 := kt hg1 1 k1
 have k1_2 := kt hg1 2 r1_0
 refine rw_ 9 [(4, 0), (5, 1), (6, 2), (7, 3), (8, 4), (9, 5), (10, 6), (11, 7), (3, 8)] [[], [0], [], [], [3], [2, 4], [5], [1, 6], [7]] (rel [is (.pointer (some ⟨(s1 0), 1, none⟩)), iI p.weight, is (.func (.func 57) #[] #[]), is (.pointer (some ⟨(s1 0), 4, none⟩)), is (.agg #[.int .i64 p.m1, .int .i64 p.m2]), iI p.m2, iI (1000 + p.m2), iI (p.weight * (1000 + p.m2)), iI (p.weight * (1000 + p.m2))])
  ⟨fun f s W c d h i j a => opv rfl rfl (by simp [go_sem, a.e 2 k1_2]) rfl,
  fun f s W c d h i j a => opv rfl rfl (by simp [go_sem, a.e 4 (d 0 rfl), cb br1_0 c 1]) rfl,
  fun f s W c d h i j a => opv rfl rfl (by simp [go_sem, a.e 1 k1_1, cb b1_0 c 0]) rfl,
  fun f s W c d h i j a => opv rfl rfl (by simp [go_sem, a.e 2 k1_2]) rfl,
  fun f s W c d h i j a => opv rfl rfl (by simp [go_sem, a.e 7 (d 3 rfl), cb br1_0 c 4, cb br1_0 c 5]) rfl,
  fun f s W c d h i j a => opc rfl rfl (by simp [go_sem, a.e 8 (d 4 rfl), a.e 6 (d 2 rfl)]) (high_ok (p.m1) (p.m2) W),
  fun f s W c d h i j a => opv rfl rfl (by simp [go_sem, a.e 9 (d 5 rfl), IntWalk.i64_in (1000 + p.m2) (by omega)]) rfl,
  fun f s W c d h i j a => opv rfl rfl (by simp [go_sem, a.e 5 (d 1 rfl), a.e 10 (d 6 rfl), IntWalk.i64_in (p.weight * (1000 + p.m2)) (by omega)]) rfl,
  fun f s W c d h i j a => opm (a.v 11 (d 7 rfl)), trivial⟩ ?_
 intro f2 s2 W2 hB2 g2 hg2 z2
 have fB2 := hB2.f (hB1.f fB0)
 have k2_3 := kt hg2 3 (hB2.is 8)
 refine wp_ret ?_
 refine leave_one (N := 12) (.inr rfl) Try.results83 rfl k2_3 ?_
 exact ⟨rfl, fB2⟩
theorem sheetOf_1 (ps : Nat → Pa) (qs : Nat → Fu) (bp oP np cp bq oq nq cq : Nat) (tx ux cx tf uf cf pa0 pa1 pa2 fa0 : Nat) (PA0 PA1 PA2 : Pa) (FA0 : Fu) (wh : Int) (w : World) (hP : PaR w bp oP np ps) (hQ : FuR w bq oq nq qs) (hpi : ∀ i, i < np → PaIn (ps i)) (hqi : ∀ i, i < nq → FuIn (qs i)) (np1 : 1 ≤ np) (np8 : np ≤ 8) (nq1 : 1 ≤ nq) (nq4 : nq ≤ 4) (hX : Ii w (some ⟨tx, ux, none⟩) 3 cx [(pa0 : Int), (pa1 : Int), (pa2 : Int)]) (hF : Ii w (some ⟨tf, uf, none⟩) 1 cf [(fa0 : Int)]) (hpa0 : pa0 < np) (epa0 : ps pa0 = PA0) (hpa1 : pa1 < np) (epa1 : ps pa1 = PA1) (hpa2 : pa2 < np) (epa2 : ps pa2 = PA2) (hfa0 : fa0 < nq) (efa0 : qs fa0 = FA0) (hk0 : PA0.kind = 1) (hk1 : PA1.kind = 2) (hk2 : PA2.kind = 1) (hwh : FA0.pitch = wh) (gwh : 0 ≤ wh ∧ wh ≤ 100000000) (gw1 : 0 ≤ FA0.pitch ∧ FA0.pitch ≤ 10000) :
  Calls Try.prog 55 #[.agg #[.slice (some ⟨bp, oP, none⟩) np cp, .slice (some ⟨bq, oq, none⟩) nq cq], .agg #[.slice (some ⟨tx, ux, none⟩) 3 cx, .slice (some ⟨tf, uf, none⟩) 1 cf]] w (fun e w' => e = .returned (.agg #[.slice (some ⟨tx, ux, none⟩) 3 cx, .slice (some ⟨tf, uf, none⟩) 1 cf, .slice (some ⟨bp, oP, none⟩) np cp, .slice (some ⟨bq, oq, none⟩) nq cq, .int .i64 wh]) ∧ Below w.heap.size w w') := by
 have gw2 : 0 ≤ FA0.pitch ∧ FA0.pitch ≤ 100000000 := by rw [hwh]; exact gwh
 refine calls_fr Try.func55 Try.ntmps55 rfl rfl fun g hg => ?_
 have k0 : g 0 = .agg #[.slice (some ⟨bp, oP, none⟩) np cp, .slice (some ⟨bq, oq, none⟩) nq cq] := hg 0
 have k1 : g 1 = .agg #[.slice (some ⟨tx, ux, none⟩) 3 cx, .slice (some ⟨tf, uf, none⟩) 1 cf] := hg 1
 clear hg
 have fB0 : Below w.heap.size w w := Below.refl _ _
 refine rw_ 3 [(2, 0), (3, 1), (4, 2)] [[], [], []] (rel [bx 0 #[.slice (some ⟨bp, oP, none⟩) np cp, .slice (some ⟨bq, oq, none⟩) nq cq] 68, bx 1 #[.slice (some ⟨tx, ux, none⟩) 3 cx, .slice (some ⟨tf, uf, none⟩) 1 cf] 71, bx 2 #[.slice none 0 0, .slice none 0 0, .slice none 0 0, .slice none 0 0, .int .i64 0] 95])
  ⟨fun f s W c d h j k a => opb rfl rfl (by simp [go_sem, a.e 0 k0]),
  fun f s W c d h j k a => opb rfl rfl (by simp [go_sem, a.e 1 k1]),
  fun f s W c d h j k a => opb rfl rfl (by simp [go_sem]), trivial⟩ ?_
 intro f1 s1 W1 hB1 g1 hg1 z1
 obtain ⟨r1_0, br1_0⟩ := hB1.is 0
 have lr1_0 := hB1.lr 0 br1_0
 obtain ⟨r1_1, br1_1⟩ := hB1.is 1
 have lr1_1 := hB1.lr 1 br1_1
 obtain ⟨r1_2, br1_2⟩ := hB1.is 2
 have lr1_2 := hB1.lr 2 br1_2
 have ne1_0_1 := hB1.nb 0 1
 have ne1_0_2 := hB1.nb 0 2
 have ne1_1_2 := hB1.nb 1 2
 have k1_2 := kt hg1 2 r1_0
 have k1_3 := kt hg1 3 r1_1
 refine wp_seq_k fun K2 hK2 => ?_
 refine ry 4 [(8, 0), (9, 1), (10, 2), (5, 3)] [[], [], [0, 1], [], [0, 1, 2, 3]] (rel [is (.agg #[.slice (some ⟨tx, ux, none⟩) 3 cx, .slice (some ⟨tf, uf, none⟩) 1 cf]), is (.agg #[.slice (some ⟨bp, oP, none⟩) np cp, .slice (some ⟨bq, oq, none⟩) nq cq]), is (.agg #[.slice (some ⟨tx, ux, none⟩) 3 cx, .slice (some ⟨tf, uf, none⟩) 1 cf, .slice (some ⟨bp, oP, none⟩) np cp, .slice (some ⟨bq, oq, none⟩) nq cq, .int .i64 1]), bx 3 #[.slice none 0 0, .slice none 0 0, .slice none 0 0, .slice none 0 0, .int .i64 0] 95])
  ⟨fun f s W c d h j k a => opv rfl rfl (by simp [go_sem, a.e 3 k1_3, cb br1_1 c 0, cb br1_1 c 1]) rfl,
  fun f s W c d h j k a => opv rfl rfl (by simp [go_sem, a.e 2 k1_2, cb br1_0 c 0, cb br1_0 c 1]) rfl,
  fun f s W c d h j k a => opv rfl rfl (by simp [go_sem, a.e 8 (d 0 rfl), a.e 9 (d 1 rfl)]) rfl,
  fun f s W c d h j k a => opb rfl rfl (by simp [go_sem]), trivial⟩ ?_
 intro f2 s2 W2 hB2 g2 hg2 z2
 have fB2 := hB2.f (hB1.f fB0)
 have b2_0 := hB2.b br1_0
 have b2_1 := hB2.b br1_1
 have b2_2 := hB2.b br1_2
 obtain ⟨r2_3, br2_3⟩ := hB2.is 3
 have lr2_3 := hB2.lr 3 br2_3
 have k2_3 := kt hg2 3 k1_3
 have k2_10 := kt hg2 10 (hB2.is 2)
 have k2_5 := kt hg2 5 r2_3
 obtain ⟨W3, hW3⟩ : ∃ W', W' = W2.setRow (s2 3) #[.slice (some ⟨tx, ux, none⟩) 3 cx, .slice (some ⟨tf, uf, none⟩) 1 cf, .slice (some ⟨bp, oP, none⟩) np cp, .slice (some ⟨bq, oq, none⟩) nq cq, .int .i64 1] := ⟨_, rfl⟩
 refine tsk (o := _) rfl ⟨rfl, rfl⟩ (run_seg hW3 (fr_ev k2_5) (fr_ev k2_10) br2_3 rfl rfl rfl rfl) ?_
 obtain ⟨fB3, nb3, ot3, z3⟩ := sgf hW3 fB2 br2_3 (by omega)
 clear hW3
 have b3_0 := ot3 _ _ (by omega) b2_0
 have b3_1 := ot3 _ _ (by omega) b2_1
 have b3_2 := ot3 _ _ (by omega) b2_2
 refine wpe ?_
 refine hK2 _ _ ?_
 refine wp_seq_k fun K3 hK3 => ?_
 refine rw_ 4 [(11, 0), (12, 1), (13, 2), (14, 3)] [[], [0], [1], []] (rel [is (.pointer (some ⟨(s1 1), 1, none⟩)), is (.slice (some ⟨tf, uf, none⟩) 1 cf), iI 1, iI 0])
  ⟨fun f s W c d h j k a => opv rfl rfl (by simp [go_sem, a.e 3 k2_3]) rfl,
  fun f s W c d h j k a => opv rfl rfl (by simp [go_sem, a.e 11 (d 0 rfl), cb b3_1 c 1]) rfl,
  fun f s W c d h j k a => opv rfl rfl (by simp [go_sem, a.e 12 (d 1 rfl)]) rfl,
  fun f s W c d h j k a => opz, trivial⟩ ?_
 intro f4 s4 W4 hB4 g4 hg4 z4
 have k4_13 := kt hg4 13 (hB4.is 2)
 have k4_14 := kt hg4 14 (hB4.is 3)
 refine wp_block ?_
 refine wp_loop_rounds 2 ?_
 rw [rounds_succ]
 refine rw_ 1 [(15, 0)] [[]] (rel [iB true])
  ⟨fun f s W c d h j k a => opv rfl rfl (by simp [go_sem, a.e 14 k4_14, a.e 13 k4_13]) rfl, trivial⟩ ?_
 intro f5 s5 W5 hB5 g5 hg5 z5
 have fB5 := hB5.f (hB4.f fB3)
 have k5_12 := kt hg5 12 (kt hg4 12 (hB4.is 1))
 have k5_14 := kt hg5 14 k4_14
 have k5_15 := kt hg5 15 (hB5.is 0)
 refine wp_seq_k fun K6 hK6 => ?_
 refine wp_cond_true ((fr_eval rfl).trans k5_15) ?_
 refine wp_skip ?_
 refine hK6 _ _ ?_
 refine wp_seq_k fun K8 hK8 => ?_
 refine wp_block ?_
 refine rw_ 3 [(16, 0), (17, 1), (7, 2)] [[], [0], [1]] (rel [is (.pointer (some ⟨tf, uf, none⟩)), iI ((fa0 : Int)), iI ((fa0 : Int))])
  ⟨fun f s W c d h j k a => opv rfl rfl (by simp [go_sem, a.e 12 k5_12, a.e 14 k5_14]) rfl,
  fun f s W c d h j k a => by have l := bwt fB5 c; have cu : W.cell? ⟨tf, uf, none⟩ = some (.int .i64 (fa0 : Int)) := ii_cell (hF.below l (Nat.le_refl _)) 0 (by simp); exact opv rfl rfl (by simp [go_sem, a.e 16 (d 0 rfl), cu]) rfl,
  fun f s W c d h j k a => opm (a.v 17 (d 1 rfl)), trivial⟩ ?_
 intro f6 s6 W6 hB6 g6 hg6 z6
 have fB6 := hB6.f fB5
 have b6_0 := hB6.b (hB5.b (hB4.b b3_0))
 have b6_3 := hB6.b (hB5.b (hB4.b nb3))
 have k6_2 := kt hg6 2 (kt hg5 2 (kt hg4 2 (kt hg2 2 k1_2)))
 have k6_5 := kt hg6 5 (kt hg5 5 (kt hg4 5 k2_5))
 have k6_7 := kt hg6 7 (hB6.is 2)
 refine ry 10 [(18, 0), (19, 1), (20, 2), (21, 3), (22, 4), (23, 5), (24, 6), (25, 7), (26, 8), (27, 9)] [[], [0], [], [2], [], [3, 4], [5], [6], [1, 7], [], [0, 1, 2, 3, 4, 5, 6, 7, 8, 9]] (rel [is (.pointer (some ⟨(s2 3), 4, none⟩)), iI 1, is (.pointer (some ⟨(s1 0), 1, none⟩)), is (.slice (some ⟨bq, oq, none⟩) nq cq), iI ((fa0 : Int)), is (.pointer (some ⟨bq, oq + fa0 * 4, none⟩)), is (.pointer (some ⟨bq, oq + fa0 * 4, none⟩)), iI FA0.pitch, iI FA0.pitch, is (.pointer (some ⟨(s2 3), 4, none⟩))])
  ⟨fun f s W c d h j k a => opv rfl rfl (by simp [go_sem, a.e 5 k6_5]) rfl,
  fun f s W c d h j k a => opv rfl rfl (by simp [go_sem, a.e 18 (d 0 rfl), cb b6_3 c 4]) rfl,
  fun f s W c d h j k a => opv rfl rfl (by simp [go_sem, a.e 2 k6_2]) rfl,
  fun f s W c d h j k a => opv rfl rfl (by simp [go_sem, a.e 20 (d 2 rfl), cb b6_0 c 1]) rfl,
  fun f s W c d h j k a => opm (a.v 7 k6_7),
  fun f s W c d h j k a => by have li_ := Nat.not_le.2 hfa0; have lz_ : (fa0 : Int) < (nq : Int) := (by omega); exact opv rfl rfl (by simp [go_sem, a.e 21 (d 3 rfl), a.e 22 (d 4 rfl), li_, hfa0, lz_]) rfl,
  fun f s W c d h j k a => opv rfl rfl (by simp [go_sem, a.e 23 (d 5 rfl)]) rfl,
  fun f s W c d h j k a => by have l := bwt fB6 c; have E_ := (hQ.below l).2 fa0 hfa0; rw [efa0] at E_; obtain ⟨u0_, u1_, u2_, u3_⟩ := E_; have v0_ : W.cell? ⟨bq, oq + fa0 * 4, none⟩ = some (.int .i64 FA0.pitch) := u0_; exact opv rfl rfl (by simp [go_sem, a.e 24 (d 6 rfl), v0_]) rfl,
  fun f s W c d h j k a => opv rfl rfl (by simp [go_sem, a.e 19 (d 1 rfl), a.e 25 (d 7 rfl), IntWalk.i64_in (FA0.pitch) (by omega)]) rfl,
  fun f s W c d h j k a => opv rfl rfl (by simp [go_sem, a.e 5 k6_5]) rfl, trivial⟩ ?_
 intro f7 s7 W7 hB7 g7 hg7 z7
 have fB7 := hB7.f fB6
 have b7_2 := hB7.b (hB6.b (hB5.b (hB4.b b3_2)))
 have b7_3 := hB7.b b6_3
 have k7_14 := kt hg7 14 (kt hg6 14 k5_14)
 have k7_26 := kt hg7 26 (hB7.is 8)
 have k7_27 := kt hg7 27 (hB7.is 9)
 obtain ⟨W8, hW8⟩ : ∃ W', W' = W7.setRow (s2 3) #[.slice (some ⟨tx, ux, none⟩) 3 cx, .slice (some ⟨tf, uf, none⟩) 1 cf, .slice (some ⟨bp, oP, none⟩) np cp, .slice (some ⟨bq, oq, none⟩) nq cq, .int .i64 FA0.pitch] := ⟨_, rfl⟩
 refine tsk (o := _) rfl ⟨rfl, rfl⟩ (run_seg hW8 (fr_ev k7_27) (fr_ev k7_26) b7_3 rfl rfl rfl rfl) ?_
 obtain ⟨fB8, nb8, ot8, z8⟩ := sgf hW8 fB7 b7_3 (by omega)
 clear hW8
 have b8_2 := ot8 _ _ (by omega) b7_2
 refine wpe ?_
 refine ibn ?_
 refine hK8 _ _ ?_
 refine ry 2 [(28, 0), (14, 1)] [[], [0]] (rel [iI 1, iI 1])
  ⟨fun f s W c d h j k a => opv rfl rfl (by simp [go_sem, a.e 14 ((j 1 14 rfl rfl).trans k7_14), IntWalk.i64_in (1) (by omega)]) rfl,
  fun f s W c d h j k a => opm (a.v 28 (d 0 rfl)), trivial⟩ ?_
 intro f9 s9 W9 hB9 g9 hg9 z9
 refine wpe ?_
 have k9_13 := kt hg9 13 (kt hg7 13 (kt hg6 13 (kt hg5 13 k4_13)))
 have k9_14 := kt hg9 14 (hB9.is 1)
 refine then_normal ?_
 rw [rounds_succ]
 refine rw_ 1 [(15, 0)] [[]] (rel [iB false])
  ⟨fun f s W c d h j k a => opv rfl rfl (by simp [go_sem, a.e 14 k9_14, a.e 13 k9_13]) rfl, trivial⟩ ?_
 intro f10 s10 W10 hB10 g10 hg10 z10
 have b10_3 := hB10.b (hB9.b nb8)
 have k10_5 := kt hg10 5 (kt hg9 5 (kt hg7 5 k6_5))
 have k10_15 := kt hg10 15 (hB10.is 0)
 refine wp_seq_k fun K11 hK11 => ?_
 refine wp_cond_false ((fr_eval rfl).trans k10_15) ?_
 refine wp_exit ?_
 refine then_exit ?_
 refine then_exit ?_
 refine inBlock_at ?_
 refine hK3 _ _ ?_
 refine wp_seq_k fun K13 hK13 => ?_
 refine ry 1 [(29, 0)] [[], [0]] (rel [is (.agg #[.slice (some ⟨tx, ux, none⟩) 3 cx, .slice (some ⟨tf, uf, none⟩) 1 cf, .slice (some ⟨bp, oP, none⟩) np cp, .slice (some ⟨bq, oq, none⟩) nq cq, .int .i64 FA0.pitch])])
  ⟨fun f s W c d h j k a => opv rfl rfl (by simp [go_sem, a.e 5 k10_5, cb b10_3 c 0, cb b10_3 c 1, cb b10_3 c 2, cb b10_3 c 3, cb b10_3 c 4]) rfl, trivial⟩ ?_
 intro f11 s11 W11 hB11 g11 hg11 z11
 have fB11 := hB11.f (hB10.f (hB9.f fB8))
 have b11_2 := hB11.b (hB10.b (hB9.b b8_2))
 have k11_4 := kt hg11 4 (kt hg10 4 (kt hg9 4 (kt hg7 4 (kt hg6 4 (kt hg5 4 (kt hg4 4 (kt hg2 4 (kt hg1 4 r1_2))))))))
 have k11_29 := kt hg11 29 (hB11.is 0)
 obtain ⟨W12, hW12⟩ : ∃ W', W' = W11.setRow (s1 2) #[.slice (some ⟨tx, ux, none⟩) 3 cx, .slice (some ⟨tf, uf, none⟩) 1 cf, .slice (some ⟨bp, oP, none⟩) np cp, .slice (some ⟨bq, oq, none⟩) nq cq, .int .i64 FA0.pitch] := ⟨_, rfl⟩
 refine tsk (o := _) rfl ⟨rfl, rfl⟩ (run_seg hW12 (fr_ev k11_4) (fr_ev k11_29) b11_2 rfl rfl rfl rfl) ?_
 obtain ⟨fB12, nb12, ot12, z12⟩ := sgf hW12 fB11 b11_2 (by omega)
 clear hW12
 refine wpe ?_
 refine hK13 _ _ ?_
 refine wp_ret ?_
 refine leave_gen (v := .agg #[.slice (some ⟨tx, ux, none⟩) 3 cx, .slice (some ⟨tf, uf, none⟩) 1 cf, .slice (some ⟨bp, oP, none⟩) np cp, .slice (some ⟨bq, oq, none⟩) nq cq, .int .i64 FA0.pitch]) (.inr rfl) (by simp [results, Try.results55, go_sem, frv 30 k11_4, cl nb12 0, cl nb12 1, cl nb12 2, cl nb12 3, cl nb12 4]) ?_
 exact ⟨by rw [← hwh], fB12⟩
theorem newSheet_1 (ps : Nat → Pa) (qs : Nat → Fu) (bp oP np cp bq oq nq cq : Nat) (tx ux cx tf uf cf pa0 pa1 pa2 fa0 : Nat) (PA0 PA1 PA2 : Pa) (FA0 : Fu) (wh : Int) (w : World) (hP : PaR w bp oP np ps) (hQ : FuR w bq oq nq qs) (hpi : ∀ i, i < np → PaIn (ps i)) (hqi : ∀ i, i < nq → FuIn (qs i)) (np1 : 1 ≤ np) (np8 : np ≤ 8) (nq1 : 1 ≤ nq) (nq4 : nq ≤ 4) (hX : Ii w (some ⟨tx, ux, none⟩) 3 cx [(pa0 : Int), (pa1 : Int), (pa2 : Int)]) (hF : Ii w (some ⟨tf, uf, none⟩) 1 cf [(fa0 : Int)]) (hpa0 : pa0 < np) (epa0 : ps pa0 = PA0) (hpa1 : pa1 < np) (epa1 : ps pa1 = PA1) (hpa2 : pa2 < np) (epa2 : ps pa2 = PA2) (hfa0 : fa0 < nq) (efa0 : qs fa0 = FA0) (hk0 : PA0.kind = 1) (hk1 : PA1.kind = 2) (hk2 : PA2.kind = 1) (hwh : FA0.pitch = wh) (gwh : 0 ≤ wh ∧ wh ≤ 100000000) (gw1 : 0 ≤ FA0.pitch ∧ FA0.pitch ≤ 10000) :
  Calls Try.prog 33 #[.agg #[.slice (some ⟨bp, oP, none⟩) np cp, .slice (some ⟨bq, oq, none⟩) nq cq], .agg #[.slice (some ⟨tx, ux, none⟩) 3 cx, .slice (some ⟨tf, uf, none⟩) 1 cf]] w (fun e w' => e = .returned (.tuple #[.agg #[.slice (some ⟨tx, ux, none⟩) 3 cx, .slice (some ⟨tf, uf, none⟩) 1 cf, .slice (some ⟨bp, oP, none⟩) np cp, .slice (some ⟨bq, oq, none⟩) nq cq, .int .i64 wh], .int .i64 0]) ∧ Below w.heap.size w w') := by
 refine calls_fr Try.func33 Try.ntmps33 rfl rfl fun g hg => ?_
 have k0 : g 0 = .agg #[.slice (some ⟨bp, oP, none⟩) np cp, .slice (some ⟨bq, oq, none⟩) nq cq] := hg 0
 have k1 : g 1 = .agg #[.slice (some ⟨tx, ux, none⟩) 3 cx, .slice (some ⟨tf, uf, none⟩) 1 cf] := hg 1
 clear hg
 have fB0 : Below w.heap.size w w := Below.refl _ _
 refine rw_ 4 [(2, 0), (3, 1), (4, 2), (5, 3)] [[], [], [], []] (rel [bx 0 #[.slice (some ⟨bp, oP, none⟩) np cp, .slice (some ⟨bq, oq, none⟩) nq cq] 68, bx 1 #[.slice (some ⟨tx, ux, none⟩) 3 cx, .slice (some ⟨tf, uf, none⟩) 1 cf] 71, bx 2 #[.slice none 0 0, .slice none 0 0, .slice none 0 0, .slice none 0 0, .int .i64 0] 95, iI 0])
  ⟨fun f s W c d h j k a => opb rfl rfl (by simp [go_sem, a.e 0 k0]),
  fun f s W c d h j k a => opb rfl rfl (by simp [go_sem, a.e 1 k1]),
  fun f s W c d h j k a => opb rfl rfl (by simp [go_sem]),
  fun f s W c d h j k a => opz, trivial⟩ ?_
 intro f1 s1 W1 hB1 g1 hg1 z1
 have fB1 := hB1.f fB0
 obtain ⟨r1_0, br1_0⟩ := hB1.is 0
 have lr1_0 := hB1.lr 0 br1_0
 obtain ⟨r1_1, br1_1⟩ := hB1.is 1
 have lr1_1 := hB1.lr 1 br1_1
 obtain ⟨r1_2, br1_2⟩ := hB1.is 2
 have lr1_2 := hB1.lr 2 br1_2
 have ne1_0_1 := hB1.nb 0 1
 have ne1_0_2 := hB1.nb 0 2
 have ne1_1_2 := hB1.nb 1 2
 have k1_2 := kt hg1 2 r1_0
 have k1_3 := kt hg1 3 r1_1
 refine wp_seq_k fun K2 hK2 => ?_
 refine rw_ 4 [(7, 0), (8, 1), (9, 2), (6, 3)] [[], [], [0, 1], [2]] (rel [is (.agg #[.slice (some ⟨bp, oP, none⟩) np cp, .slice (some ⟨bq, oq, none⟩) nq cq]), is (.agg #[.slice (some ⟨tx, ux, none⟩) 3 cx, .slice (some ⟨tf, uf, none⟩) 1 cf]), iI 0, iI 0])
  ⟨fun f s W c d h j k a => opv rfl rfl (by simp [go_sem, a.e 2 k1_2, cb br1_0 c 0, cb br1_0 c 1]) rfl,
  fun f s W c d h j k a => opv rfl rfl (by simp [go_sem, a.e 3 k1_3, cb br1_1 c 0, cb br1_1 c 1]) rfl,
  fun f s W c d h j k a => by have l := bwt fB1 c; exact opc rfl rfl (by simp [go_sem, a.e 7 (d 0 rfl), a.e 8 (d 1 rfl)]) (made_1 ps qs bp oP np cp bq oq nq cq tx ux cx tf uf cf pa0 pa1 pa2 fa0 PA0 PA1 PA2 FA0 W (hP.below l) (hQ.below l) hpi hqi np1 np8 nq1 nq4 (hX.below l (Nat.le_refl _)) (hF.below l (Nat.le_refl _)) hpa0 epa0 hpa1 epa1 hpa2 epa2 hfa0 efa0 hk0 hk1 hk2),
  fun f s W c d h j k a => opm (a.v 9 (d 2 rfl)), trivial⟩ ?_
 intro f2 s2 W2 hB2 g2 hg2 z2
 have k2_6 := kt hg2 6 (hB2.is 3)
 refine rw_ 2 [(10, 0), (11, 1)] [[], [0]] (rel [iI 0, iB false])
  ⟨fun f s W c d h j k a => opm (a.v 6 k2_6),
  fun f s W c d h j k a => opv rfl rfl (by simp [go_sem, a.e 10 (d 0 rfl)]) rfl, trivial⟩ ?_
 intro f3 s3 W3 hB3 g3 hg3 z3
 have fB3 := hB3.f (hB2.f fB1)
 have b3_0 := hB3.b (hB2.b br1_0)
 have b3_1 := hB3.b (hB2.b br1_1)
 have k3_2 := kt hg3 2 (kt hg2 2 k1_2)
 have k3_3 := kt hg3 3 (kt hg2 3 k1_3)
 have k3_11 := kt hg3 11 (hB3.is 1)
 refine wp_cond_false ((fr_eval rfl).trans k3_11) ?_
 refine wp_skip ?_
 refine hK2 _ _ ?_
 refine wp_seq_k fun K6 hK6 => ?_
 refine ry 3 [(14, 0), (15, 1), (16, 2), (5, 4)] [[], [], [0, 1], [0, 1, 2], [0, 1, 2, 3]] (rel [is (.agg #[.slice (some ⟨bp, oP, none⟩) np cp, .slice (some ⟨bq, oq, none⟩) nq cq]), is (.agg #[.slice (some ⟨tx, ux, none⟩) 3 cx, .slice (some ⟨tf, uf, none⟩) 1 cf]), is (.agg #[.slice (some ⟨tx, ux, none⟩) 3 cx, .slice (some ⟨tf, uf, none⟩) 1 cf, .slice (some ⟨bp, oP, none⟩) np cp, .slice (some ⟨bq, oq, none⟩) nq cq, .int .i64 wh])])
  ⟨fun f s W c d h j k a => opv rfl rfl (by simp [go_sem, a.e 2 k3_2, cb b3_0 c 0, cb b3_0 c 1]) rfl,
  fun f s W c d h j k a => opv rfl rfl (by simp [go_sem, a.e 3 k3_3, cb b3_1 c 0, cb b3_1 c 1]) rfl,
  fun f s W c d h j k a => by have l := bwt fB3 c; exact opc rfl rfl (by simp [go_sem, a.e 14 (d 0 rfl), a.e 15 (d 1 rfl)]) (sheetOf_1 ps qs bp oP np cp bq oq nq cq tx ux cx tf uf cf pa0 pa1 pa2 fa0 PA0 PA1 PA2 FA0 wh W (hP.below l) (hQ.below l) hpi hqi np1 np8 nq1 nq4 (hX.below l (Nat.le_refl _)) (hF.below l (Nat.le_refl _)) hpa0 epa0 hpa1 epa1 hpa2 epa2 hfa0 efa0 hk0 hk1 hk2 hwh gwh gw1), trivial⟩ ?_
 intro f4 s4 W4 hB4 g4 hg4 z4
 have fB4 := hB4.f fB3
 have b4_2 := hB4.b (hB3.b (hB2.b br1_2))
 have k4_4 := kt hg4 4 (kt hg3 4 (kt hg2 4 (kt hg1 4 r1_2)))
 have k4_16 := kt hg4 16 (hB4.is 2)
 obtain ⟨W5, hW5⟩ : ∃ W', W' = W4.setRow (s1 2) #[.slice (some ⟨tx, ux, none⟩) 3 cx, .slice (some ⟨tf, uf, none⟩) 1 cf, .slice (some ⟨bp, oP, none⟩) np cp, .slice (some ⟨bq, oq, none⟩) nq cq, .int .i64 wh] := ⟨_, rfl⟩
 refine tsk (o := _) rfl ⟨rfl, rfl⟩ (run_seg hW5 (fr_ev k4_4) (fr_ev k4_16) b4_2 rfl rfl rfl rfl) ?_
 obtain ⟨fB5, nb5, ot5, z5⟩ := sgf hW5 fB4 b4_2 (by omega)
 clear hW5
 refine tail_value (o := _) rfl rfl rfl (v := .int .i64 0) (by simp [go_sem]) ?_
 generalize hg6 : upd g4 5 (.int .i64 0) = g6
 have k6_4 := ku hg6 4 k4_4
 have k6_5 := kt hg6 5 (upd_same _ _ _)
 refine wpe ?_
 refine hK6 _ _ ?_
 refine wp_ret ?_
 refine leave_gen (v := .tuple #[.agg #[.slice (some ⟨tx, ux, none⟩) 3 cx, .slice (some ⟨tf, uf, none⟩) 1 cf, .slice (some ⟨bp, oP, none⟩) np cp, .slice (some ⟨bq, oq, none⟩) nq cq, .int .i64 wh], .int .i64 0]) (.inr rfl) (by simp [results, Try.results33, go_sem, frv 17 k6_4, cl nb5 0, cl nb5 1, cl nb5 2, cl nb5 3, cl nb5 4, frv 17 k6_5]) ?_
 exact ⟨rfl, fB5⟩
theorem caliper_1_1 (ps : Nat → Pa) (qs : Nat → Fu) (bp oP np cp bq oq nq cq : Nat) (tx ux cx tf uf cf pa0 pa1 pa2 fa0 : Nat) (PA0 PA1 PA2 : Pa) (FA0 : Fu) (wh : Int) (w : World) (hP : PaR w bp oP np ps) (hQ : FuR w bq oq nq qs) (hpi : ∀ i, i < np → PaIn (ps i)) (hqi : ∀ i, i < nq → FuIn (qs i)) (np1 : 1 ≤ np) (np8 : np ≤ 8) (nq1 : 1 ≤ nq) (nq4 : nq ≤ 4) (hX : Ii w (some ⟨tx, ux, none⟩) 3 cx [(pa0 : Int), (pa1 : Int), (pa2 : Int)]) (hF : Ii w (some ⟨tf, uf, none⟩) 1 cf [(fa0 : Int)]) (hpa0 : pa0 < np) (epa0 : ps pa0 = PA0) (hpa1 : pa1 < np) (epa1 : ps pa1 = PA1) (hpa2 : pa2 < np) (epa2 : ps pa2 = PA2) (hfa0 : fa0 < nq) (efa0 : qs fa0 = FA0) (hk0 : PA0.kind = 1) (hk1 : PA1.kind = 2) (hk2 : PA2.kind = 1) (hwh : FA0.pitch = wh) (gwh : 0 ≤ wh ∧ wh ≤ 100000000) (gw1 : 0 ≤ FA0.pitch ∧ FA0.pitch ≤ 10000) :
  Calls Try.prog 59 #[.agg #[.slice (some ⟨tx, ux, none⟩) 3 cx, .slice (some ⟨tf, uf, none⟩) 1 cf, .slice (some ⟨bp, oP, none⟩) np cp, .slice (some ⟨bq, oq, none⟩) nq cq, .int .i64 wh], .func (.func 56) #[] #[]] w (fun e w' => e = .returned (.int .i64 ((PA0.t1 + PA2.t1) + FA0.h1)) ∧ Below w.heap.size w w') := by
 have gi0 := (epa0 ▸ hpi pa0 hpa0 : PaIn PA0).thick
 have gi1 := (epa1 ▸ hpi pa1 hpa1 : PaIn PA1).thick
 have gi2 := (epa2 ▸ hpi pa2 hpa2 : PaIn PA2).thick
 have gj0 := (efa0 ▸ hqi fa0 hfa0 : FuIn FA0).high
 refine calls_fr Try.func59 Try.ntmps59 rfl rfl fun g hg => ?_
 have k0 : g 0 = .agg #[.slice (some ⟨tx, ux, none⟩) 3 cx, .slice (some ⟨tf, uf, none⟩) 1 cf, .slice (some ⟨bp, oP, none⟩) np cp, .slice (some ⟨bq, oq, none⟩) nq cq, .int .i64 wh] := hg 0
 have k1 : g 1 = .func (.func 56) #[] #[] := hg 1
 clear hg
 have fB0 : Below w.heap.size w w := Below.refl _ _
 refine rw_ 2 [(2, 0), (4, 1)] [[], []] (rel [bx 0 #[.slice (some ⟨tx, ux, none⟩) 3 cx, .slice (some ⟨tf, uf, none⟩) 1 cf, .slice (some ⟨bp, oP, none⟩) np cp, .slice (some ⟨bq, oq, none⟩) nq cq, .int .i64 wh] 95, iI 0])
  ⟨fun f s W c d h j k a => opb rfl rfl (by simp [go_sem, a.e 0 k0]),
  fun f s W c d h j k a => opz, trivial⟩ ?_
 intro f1 s1 W1 hB1 g1 hg1 z1
 obtain ⟨r1_0, br1_0⟩ := hB1.is 0
 have lr1_0 := hB1.lr 0 br1_0
 have k1_2 := kt hg1 2 r1_0
 refine wp_seq_k fun K2 hK2 => ?_
 refine rw_ 5 [(9, 0), (10, 1), (11, 2), (12, 3), (13, 4)] [[], [0], [1], [2], []] (rel [is (.pointer (some ⟨(s1 0), 0, none⟩)), is (.pointer (some ⟨(s1 0), 0, none⟩)), is (.slice (some ⟨tx, ux, none⟩) 3 cx), iI 3, iI 0])
  ⟨fun f s W c d h j k a => opv rfl rfl (by simp [go_sem, a.e 2 k1_2]) rfl,
  fun f s W c d h j k a => opv rfl rfl (by simp [go_sem, a.e 9 (d 0 rfl)]) rfl,
  fun f s W c d h j k a => opv rfl rfl (by simp [go_sem, a.e 10 (d 1 rfl), cb br1_0 c 0]) rfl,
  fun f s W c d h j k a => opv rfl rfl (by simp [go_sem, a.e 11 (d 2 rfl)]) rfl,
  fun f s W c d h j k a => opz, trivial⟩ ?_
 intro f2 s2 W2 hB2 g2 hg2 z2
 have k2_12 := kt hg2 12 (hB2.is 3)
 have k2_13 := kt hg2 13 (hB2.is 4)
 refine wp_block ?_
 refine wp_loop_rounds 4 ?_
 rw [rounds_succ]
 refine rw_ 1 [(14, 0)] [[]] (rel [iB true])
  ⟨fun f s W c d h j k a => opv rfl rfl (by simp [go_sem, a.e 13 k2_13, a.e 12 k2_12]) rfl, trivial⟩ ?_
 intro f3 s3 W3 hB3 g3 hg3 z3
 have fB3 := hB3.f (hB2.f (hB1.f fB0))
 have k3_11 := kt hg3 11 (kt hg2 11 (hB2.is 2))
 have k3_13 := kt hg3 13 k2_13
 have k3_14 := kt hg3 14 (hB3.is 0)
 refine wp_seq_k fun K5 hK5 => ?_
 refine wp_cond_true ((fr_eval rfl).trans k3_14) ?_
 refine wp_skip ?_
 refine hK5 _ _ ?_
 refine wp_seq_k fun K7 hK7 => ?_
 refine wp_block ?_
 refine rw_ 5 [(15, 0), (16, 1), (17, 2), (5, 3), (6, 4)] [[], [], [1], [0], [2]] (rel [iI 0, is (.pointer (some ⟨tx, ux, none⟩)), iI ((pa0 : Int)), iI 0, iI ((pa0 : Int))])
  ⟨fun f s W c d h j k a => opm (a.v 13 k3_13),
  fun f s W c d h j k a => opv rfl rfl (by simp [go_sem, a.e 11 k3_11, a.e 13 k3_13]) rfl,
  fun f s W c d h j k a => by have l := bwt fB3 c; have cu : W.cell? ⟨tx, ux, none⟩ = some (.int .i64 (pa0 : Int)) := ii_cell (hX.below l (Nat.le_refl _)) 0 (by simp); exact opv rfl rfl (by simp [go_sem, a.e 16 (d 1 rfl), cu]) rfl,
  fun f s W c d h j k a => opm (a.v 15 (d 0 rfl)),
  fun f s W c d h j k a => opm (a.v 17 (d 2 rfl)), trivial⟩ ?_
 intro f4 s4 W4 hB4 g4 hg4 z4
 have k4_5 := kt hg4 5 (hB4.is 3)
 refine rw_ 3 [(18, 0), (19, 1), (20, 2)] [[], [0], [1]] (rel [iI 0, iI 0, iB true])
  ⟨fun f s W c d h j k a => opm (a.v 5 k4_5),
  fun f s W c d h j k a => by have qw_ := IntWalk.i64_in (0) (by decide); exact opv rfl rfl (by simp [go_sem, a.e 18 (d 0 rfl), qw_]) rfl,
  fun f s W c d h j k a => opv rfl rfl (by simp [go_sem, a.e 19 (d 1 rfl)]) rfl, trivial⟩ ?_
 intro f5 s5 W5 hB5 g5 hg5 z5
 have fB5 := hB5.f (hB4.f fB3)
 have b5_0 := hB5.b (hB4.b (hB3.b (hB2.b br1_0)))
 have k5_1 := kt hg5 1 (kt hg4 1 (kt hg3 1 (kt hg2 1 (kt hg1 1 k1))))
 have k5_2 := kt hg5 2 (kt hg4 2 (kt hg3 2 (kt hg2 2 k1_2)))
 have k5_4 := kt hg5 4 (kt hg4 4 (kt hg3 4 (kt hg2 4 (kt hg1 4 (hB1.is 1)))))
 have k5_6 := kt hg5 6 (kt hg4 6 (hB4.is 4))
 have k5_20 := kt hg5 20 (hB5.is 2)
 refine wp_cond_true ((fr_eval rfl).trans k5_20) ?_
 refine ry 12 [(21, 0), (22, 1), (23, 2), (24, 3), (25, 4), (26, 5), (27, 6), (28, 7), (29, 8), (30, 9), (31, 10), (4, 11)] [[], [], [], [2], [3], [], [4, 5], [6], [7], [1, 8], [0, 9], [0, 10]] (rel [iI 0, is (.func (.func 56) #[] #[]), is (.pointer (some ⟨(s1 0), 2, none⟩)), is (.pointer (some ⟨(s1 0), 2, none⟩)), is (.slice (some ⟨bp, oP, none⟩) np cp), iI ((pa0 : Int)), is (.pointer (some ⟨bp, oP + pa0 * 8, none⟩)), is (.pointer (some ⟨bp, oP + pa0 * 8 + 2, none⟩)), is (.agg #[.int .i64 PA0.t1, .int .i64 PA0.t2]), iI PA0.t1, iI PA0.t1, iI PA0.t1])
  ⟨fun f s W c d h j k a => opm (a.v 4 ((j 11 4 rfl rfl).trans k5_4)),
  fun f s W c d h j k a => opm (a.v 1 k5_1),
  fun f s W c d h j k a => opv rfl rfl (by simp [go_sem, a.e 2 k5_2]) rfl,
  fun f s W c d h j k a => opv rfl rfl (by simp [go_sem, a.e 23 (d 2 rfl)]) rfl,
  fun f s W c d h j k a => opv rfl rfl (by simp [go_sem, a.e 24 (d 3 rfl), cb b5_0 c 2]) rfl,
  fun f s W c d h j k a => opm (a.v 6 k5_6),
  fun f s W c d h j k a => by have li_ := Nat.not_le.2 hpa0; have lz_ : (pa0 : Int) < (np : Int) := (by omega); exact opv rfl rfl (by simp [go_sem, a.e 25 (d 4 rfl), a.e 26 (d 5 rfl), li_, hpa0, lz_]) rfl,
  fun f s W c d h j k a => opv rfl rfl (by simp [go_sem, a.e 27 (d 6 rfl)]) rfl,
  fun f s W c d h j k a => by have l := bwt fB5 c; have E_ := (hP.below l).2 pa0 hpa0; rw [epa0] at E_; obtain ⟨u0_, u1_, u2_, u3_, u4_, u5_, u6_, u7_⟩ := E_; have v0_ : W.cell? ⟨bp, oP + pa0 * 8 + 2, none⟩ = some (.int .i64 PA0.t1) := u2_; have v1_ : W.cell? ⟨bp, oP + pa0 * 8 + 2 + 1, none⟩ = some (.int .i64 PA0.t2) := u3_; exact opv rfl rfl (by simp [go_sem, a.e 28 (d 7 rfl), v0_, v1_]) rfl,
  fun f s W c d h j k a => opc rfl rfl (by simp [go_sem, a.e 29 (d 8 rfl), a.e 22 (d 1 rfl)]) (low_ok (PA0.t1) (PA0.t2) W),
  fun f s W c d h j k a => opv rfl rfl (by simp [go_sem, a.e 21 (d 0 rfl), a.e 30 (d 9 rfl), IntWalk.i64_in (PA0.t1) (by omega)]) rfl,
  fun f s W c d h j k a => opm (a.v 31 (d 10 rfl)), trivial⟩ ?_
 intro f6 s6 W6 hB6 g6 hg6 z6
 refine wpe ?_
 have k6_13 := kt hg6 13 (kt hg5 13 (kt hg4 13 k3_13))
 refine ibn ?_
 refine hK7 _ _ ?_
 refine ry 2 [(32, 0), (13, 1)] [[], [0]] (rel [iI 1, iI 1])
  ⟨fun f s W c d h j k a => opv rfl rfl (by simp [go_sem, a.e 13 ((j 1 13 rfl rfl).trans k6_13), IntWalk.i64_in (1) (by omega)]) rfl,
  fun f s W c d h j k a => opm (a.v 32 (d 0 rfl)), trivial⟩ ?_
 intro f7 s7 W7 hB7 g7 hg7 z7
 refine wpe ?_
 have k7_12 := kt hg7 12 (kt hg6 12 (kt hg5 12 (kt hg4 12 (kt hg3 12 k2_12))))
 have k7_13 := kt hg7 13 (hB7.is 1)
 refine then_normal ?_
 rw [rounds_succ]
 refine rw_ 1 [(14, 0)] [[]] (rel [iB true])
  ⟨fun f s W c d h j k a => opv rfl rfl (by simp [go_sem, a.e 13 k7_13, a.e 12 k7_12]) rfl, trivial⟩ ?_
 intro f8 s8 W8 hB8 g8 hg8 z8
 have fB8 := hB8.f (hB7.f (hB6.f fB5))
 have k8_11 := kt hg8 11 (kt hg7 11 (kt hg6 11 (kt hg5 11 (kt hg4 11 k3_11))))
 have k8_13 := kt hg8 13 k7_13
 have k8_14 := kt hg8 14 (hB8.is 0)
 refine wp_seq_k fun K12 hK12 => ?_
 refine wp_cond_true ((fr_eval rfl).trans k8_14) ?_
 refine wp_skip ?_
 refine hK12 _ _ ?_
 refine wp_seq_k fun K14 hK14 => ?_
 refine wp_block ?_
 refine rw_ 5 [(15, 0), (16, 1), (17, 2), (5, 3), (6, 4)] [[], [], [1], [0], [2]] (rel [iI 1, is (.pointer (some ⟨tx, ux + 1, none⟩)), iI ((pa1 : Int)), iI 1, iI ((pa1 : Int))])
  ⟨fun f s W c d h j k a => opm (a.v 13 k8_13),
  fun f s W c d h j k a => opv rfl rfl (by simp [go_sem, a.e 11 k8_11, a.e 13 k8_13]) rfl,
  fun f s W c d h j k a => by have l := bwt fB8 c; have cu : W.cell? ⟨tx, ux + 1, none⟩ = some (.int .i64 (pa1 : Int)) := ii_cell (hX.below l (Nat.le_refl _)) 1 (by simp); exact opv rfl rfl (by simp [go_sem, a.e 16 (d 1 rfl), cu]) rfl,
  fun f s W c d h j k a => opm (a.v 15 (d 0 rfl)),
  fun f s W c d h j k a => opm (a.v 17 (d 2 rfl)), trivial⟩ ?_
 intro f9 s9 W9 hB9 g9 hg9 z9
 have k9_5 := kt hg9 5 (hB9.is 3)
 refine rw_ 3 [(18, 0), (19, 1), (20, 2)] [[], [0], [1]] (rel [iI 1, iI 1, iB false])
  ⟨fun f s W c d h j k a => opm (a.v 5 k9_5),
  fun f s W c d h j k a => by have qw_ := IntWalk.i64_in (1) (by decide); exact opv rfl rfl (by simp [go_sem, a.e 18 (d 0 rfl), qw_]) rfl,
  fun f s W c d h j k a => opv rfl rfl (by simp [go_sem, a.e 19 (d 1 rfl)]) rfl, trivial⟩ ?_
 intro f10 s10 W10 hB10 g10 hg10 z10
 have k10_13 := kt hg10 13 (kt hg9 13 k8_13)
 have k10_20 := kt hg10 20 (hB10.is 2)
 refine wp_cond_false ((fr_eval rfl).trans k10_20) ?_
 refine wp_skip ?_
 refine ibn ?_
 refine hK14 _ _ ?_
 refine ry 2 [(32, 0), (13, 1)] [[], [0]] (rel [iI 2, iI 2])
  ⟨fun f s W c d h j k a => opv rfl rfl (by simp [go_sem, a.e 13 ((j 1 13 rfl rfl).trans k10_13), IntWalk.i64_in (2) (by omega)]) rfl,
  fun f s W c d h j k a => opm (a.v 32 (d 0 rfl)), trivial⟩ ?_
 intro f11 s11 W11 hB11 g11 hg11 z11
 refine wpe ?_
 have k11_12 := kt hg11 12 (kt hg10 12 (kt hg9 12 (kt hg8 12 k7_12)))
 have k11_13 := kt hg11 13 (hB11.is 1)
 refine then_normal ?_
 rw [rounds_succ]
 refine rw_ 1 [(14, 0)] [[]] (rel [iB true])
  ⟨fun f s W c d h j k a => opv rfl rfl (by simp [go_sem, a.e 13 k11_13, a.e 12 k11_12]) rfl, trivial⟩ ?_
 intro f12 s12 W12 hB12 g12 hg12 z12
 have fB12 := hB12.f (hB11.f (hB10.f (hB9.f fB8)))
 have k12_11 := kt hg12 11 (kt hg11 11 (kt hg10 11 (kt hg9 11 k8_11)))
 have k12_13 := kt hg12 13 k11_13
 have k12_14 := kt hg12 14 (hB12.is 0)
 refine wp_seq_k fun K19 hK19 => ?_
 refine wp_cond_true ((fr_eval rfl).trans k12_14) ?_
 refine wp_skip ?_
 refine hK19 _ _ ?_
 refine wp_seq_k fun K21 hK21 => ?_
 refine wp_block ?_
 refine rw_ 5 [(15, 0), (16, 1), (17, 2), (5, 3), (6, 4)] [[], [], [1], [0], [2]] (rel [iI 2, is (.pointer (some ⟨tx, ux + 2, none⟩)), iI ((pa2 : Int)), iI 2, iI ((pa2 : Int))])
  ⟨fun f s W c d h j k a => opm (a.v 13 k12_13),
  fun f s W c d h j k a => opv rfl rfl (by simp [go_sem, a.e 11 k12_11, a.e 13 k12_13]) rfl,
  fun f s W c d h j k a => by have l := bwt fB12 c; have cu : W.cell? ⟨tx, ux + 2, none⟩ = some (.int .i64 (pa2 : Int)) := ii_cell (hX.below l (Nat.le_refl _)) 2 (by simp); exact opv rfl rfl (by simp [go_sem, a.e 16 (d 1 rfl), cu]) rfl,
  fun f s W c d h j k a => opm (a.v 15 (d 0 rfl)),
  fun f s W c d h j k a => opm (a.v 17 (d 2 rfl)), trivial⟩ ?_
 intro f13 s13 W13 hB13 g13 hg13 z13
 have k13_5 := kt hg13 5 (hB13.is 3)
 refine rw_ 3 [(18, 0), (19, 1), (20, 2)] [[], [0], [1]] (rel [iI 2, iI 0, iB true])
  ⟨fun f s W c d h j k a => opm (a.v 5 k13_5),
  fun f s W c d h j k a => by have qw_ := IntWalk.i64_in (0) (by decide); exact opv rfl rfl (by simp [go_sem, a.e 18 (d 0 rfl), qw_]) rfl,
  fun f s W c d h j k a => opv rfl rfl (by simp [go_sem, a.e 19 (d 1 rfl)]) rfl, trivial⟩ ?_
 intro f14 s14 W14 hB14 g14 hg14 z14
 have fB14 := hB14.f (hB13.f fB12)
 have b14_0 := hB14.b (hB13.b (hB12.b (hB11.b (hB10.b (hB9.b (hB8.b (hB7.b (hB6.b b5_0))))))))
 have k14_1 := kt hg14 1 (kt hg13 1 (kt hg12 1 (kt hg11 1 (kt hg10 1 (kt hg9 1 (kt hg8 1 (kt hg7 1 (kt hg6 1 k5_1))))))))
 have k14_2 := kt hg14 2 (kt hg13 2 (kt hg12 2 (kt hg11 2 (kt hg10 2 (kt hg9 2 (kt hg8 2 (kt hg7 2 (kt hg6 2 k5_2))))))))
 have k14_4 := kt hg14 4 (kt hg13 4 (kt hg12 4 (kt hg11 4 (kt hg10 4 (kt hg9 4 (kt hg8 4 (kt hg7 4 (kt hg6 4 (hB6.is 11)))))))))
 have k14_6 := kt hg14 6 (kt hg13 6 (hB13.is 4))
 have k14_20 := kt hg14 20 (hB14.is 2)
 refine wp_cond_true ((fr_eval rfl).trans k14_20) ?_
 refine ry 12 [(21, 0), (22, 1), (23, 2), (24, 3), (25, 4), (26, 5), (27, 6), (28, 7), (29, 8), (30, 9), (31, 10), (4, 11)] [[], [], [], [2], [3], [], [4, 5], [6], [7], [1, 8], [0, 9], [0, 10]] (rel [iI PA0.t1, is (.func (.func 56) #[] #[]), is (.pointer (some ⟨(s1 0), 2, none⟩)), is (.pointer (some ⟨(s1 0), 2, none⟩)), is (.slice (some ⟨bp, oP, none⟩) np cp), iI ((pa2 : Int)), is (.pointer (some ⟨bp, oP + pa2 * 8, none⟩)), is (.pointer (some ⟨bp, oP + pa2 * 8 + 2, none⟩)), is (.agg #[.int .i64 PA2.t1, .int .i64 PA2.t2]), iI PA2.t1, iI (PA0.t1 + PA2.t1), iI (PA0.t1 + PA2.t1)])
  ⟨fun f s W c d h j k a => opm (a.v 4 ((j 11 4 rfl rfl).trans k14_4)),
  fun f s W c d h j k a => opm (a.v 1 k14_1),
  fun f s W c d h j k a => opv rfl rfl (by simp [go_sem, a.e 2 k14_2]) rfl,
  fun f s W c d h j k a => opv rfl rfl (by simp [go_sem, a.e 23 (d 2 rfl)]) rfl,
  fun f s W c d h j k a => opv rfl rfl (by simp [go_sem, a.e 24 (d 3 rfl), cb b14_0 c 2]) rfl,
  fun f s W c d h j k a => opm (a.v 6 k14_6),
  fun f s W c d h j k a => by have li_ := Nat.not_le.2 hpa2; have lz_ : (pa2 : Int) < (np : Int) := (by omega); exact opv rfl rfl (by simp [go_sem, a.e 25 (d 4 rfl), a.e 26 (d 5 rfl), li_, hpa2, lz_]) rfl,
  fun f s W c d h j k a => opv rfl rfl (by simp [go_sem, a.e 27 (d 6 rfl)]) rfl,
  fun f s W c d h j k a => by have l := bwt fB14 c; have E_ := (hP.below l).2 pa2 hpa2; rw [epa2] at E_; obtain ⟨u0_, u1_, u2_, u3_, u4_, u5_, u6_, u7_⟩ := E_; have v0_ : W.cell? ⟨bp, oP + pa2 * 8 + 2, none⟩ = some (.int .i64 PA2.t1) := u2_; have v1_ : W.cell? ⟨bp, oP + pa2 * 8 + 2 + 1, none⟩ = some (.int .i64 PA2.t2) := u3_; exact opv rfl rfl (by simp [go_sem, a.e 28 (d 7 rfl), v0_, v1_]) rfl,
  fun f s W c d h j k a => opc rfl rfl (by simp [go_sem, a.e 29 (d 8 rfl), a.e 22 (d 1 rfl)]) (low_ok (PA2.t1) (PA2.t2) W),
  fun f s W c d h j k a => opv rfl rfl (by simp [go_sem, a.e 21 (d 0 rfl), a.e 30 (d 9 rfl), IntWalk.i64_in (PA0.t1 + PA2.t1) (by omega)]) rfl,
  fun f s W c d h j k a => opm (a.v 31 (d 10 rfl)), trivial⟩ ?_
 intro f15 s15 W15 hB15 g15 hg15 z15
 refine wpe ?_
 have k15_13 := kt hg15 13 (kt hg14 13 (kt hg13 13 k12_13))
 refine ibn ?_
 refine hK21 _ _ ?_
 refine ry 2 [(32, 0), (13, 1)] [[], [0]] (rel [iI 3, iI 3])
  ⟨fun f s W c d h j k a => opv rfl rfl (by simp [go_sem, a.e 13 ((j 1 13 rfl rfl).trans k15_13), IntWalk.i64_in (3) (by omega)]) rfl,
  fun f s W c d h j k a => opm (a.v 32 (d 0 rfl)), trivial⟩ ?_
 intro f16 s16 W16 hB16 g16 hg16 z16
 refine wpe ?_
 have k16_12 := kt hg16 12 (kt hg15 12 (kt hg14 12 (kt hg13 12 (kt hg12 12 k11_12))))
 have k16_13 := kt hg16 13 (hB16.is 1)
 refine then_normal ?_
 rw [rounds_succ]
 refine rw_ 1 [(14, 0)] [[]] (rel [iB false])
  ⟨fun f s W c d h j k a => opv rfl rfl (by simp [go_sem, a.e 13 k16_13, a.e 12 k16_12]) rfl, trivial⟩ ?_
 intro f17 s17 W17 hB17 g17 hg17 z17
 have b17_0 := hB17.b (hB16.b (hB15.b b14_0))
 have k17_2 := kt hg17 2 (kt hg16 2 (kt hg15 2 k14_2))
 have k17_14 := kt hg17 14 (hB17.is 0)
 refine wp_seq_k fun K26 hK26 => ?_
 refine wp_cond_false ((fr_eval rfl).trans k17_14) ?_
 refine wp_exit ?_
 refine then_exit ?_
 refine then_exit ?_
 refine inBlock_at ?_
 refine hK2 _ _ ?_
 refine wp_seq_k fun K28 hK28 => ?_
 refine rw_ 5 [(33, 0), (34, 1), (35, 2), (36, 3), (37, 4)] [[], [0], [1], [2], []] (rel [is (.pointer (some ⟨(s1 0), 0, none⟩)), is (.pointer (some ⟨(s1 0), 1, none⟩)), is (.slice (some ⟨tf, uf, none⟩) 1 cf), iI 1, iI 0])
  ⟨fun f s W c d h j k a => opv rfl rfl (by simp [go_sem, a.e 2 k17_2]) rfl,
  fun f s W c d h j k a => opv rfl rfl (by simp [go_sem, a.e 33 (d 0 rfl)]) rfl,
  fun f s W c d h j k a => opv rfl rfl (by simp [go_sem, a.e 34 (d 1 rfl), cb b17_0 c 1]) rfl,
  fun f s W c d h j k a => opv rfl rfl (by simp [go_sem, a.e 35 (d 2 rfl)]) rfl,
  fun f s W c d h j k a => opz, trivial⟩ ?_
 intro f18 s18 W18 hB18 g18 hg18 z18
 have k18_36 := kt hg18 36 (hB18.is 3)
 have k18_37 := kt hg18 37 (hB18.is 4)
 refine wp_block ?_
 refine wp_loop_rounds 2 ?_
 rw [rounds_succ]
 refine rw_ 1 [(38, 0)] [[]] (rel [iB true])
  ⟨fun f s W c d h j k a => opv rfl rfl (by simp [go_sem, a.e 37 k18_37, a.e 36 k18_36]) rfl, trivial⟩ ?_
 intro f19 s19 W19 hB19 g19 hg19 z19
 have fB19 := hB19.f (hB18.f (hB17.f (hB16.f (hB15.f fB14))))
 have k19_35 := kt hg19 35 (kt hg18 35 (hB18.is 2))
 have k19_37 := kt hg19 37 k18_37
 have k19_38 := kt hg19 38 (hB19.is 0)
 refine wp_seq_k fun K31 hK31 => ?_
 refine wp_cond_true ((fr_eval rfl).trans k19_38) ?_
 refine wp_skip ?_
 refine hK31 _ _ ?_
 refine wp_seq_k fun K33 hK33 => ?_
 refine wp_block ?_
 refine rw_ 3 [(39, 0), (40, 1), (8, 2)] [[], [0], [1]] (rel [is (.pointer (some ⟨tf, uf, none⟩)), iI ((fa0 : Int)), iI ((fa0 : Int))])
  ⟨fun f s W c d h j k a => opv rfl rfl (by simp [go_sem, a.e 35 k19_35, a.e 37 k19_37]) rfl,
  fun f s W c d h j k a => by have l := bwt fB19 c; have cu : W.cell? ⟨tf, uf, none⟩ = some (.int .i64 (fa0 : Int)) := ii_cell (hF.below l (Nat.le_refl _)) 0 (by simp); exact opv rfl rfl (by simp [go_sem, a.e 39 (d 0 rfl), cu]) rfl,
  fun f s W c d h j k a => opm (a.v 40 (d 1 rfl)), trivial⟩ ?_
 intro f20 s20 W20 hB20 g20 hg20 z20
 have fB20 := hB20.f fB19
 have b20_0 := hB20.b (hB19.b (hB18.b b17_0))
 have k20_1 := kt hg20 1 (kt hg19 1 (kt hg18 1 (kt hg17 1 (kt hg16 1 (kt hg15 1 k14_1)))))
 have k20_2 := kt hg20 2 (kt hg19 2 (kt hg18 2 k17_2))
 have k20_4 := kt hg20 4 (kt hg19 4 (kt hg18 4 (kt hg17 4 (kt hg16 4 (kt hg15 4 (hB15.is 11))))))
 have k20_8 := kt hg20 8 (hB20.is 2)
 refine ry 12 [(41, 0), (42, 1), (43, 2), (44, 3), (45, 4), (46, 5), (47, 6), (48, 7), (49, 8), (50, 9), (51, 10), (4, 11)] [[], [], [], [2], [3], [], [4, 5], [6], [7], [1, 8], [0, 9], [0, 10]] (rel [iI (PA0.t1 + PA2.t1), is (.func (.func 56) #[] #[]), is (.pointer (some ⟨(s1 0), 2, none⟩)), is (.pointer (some ⟨(s1 0), 3, none⟩)), is (.slice (some ⟨bq, oq, none⟩) nq cq), iI ((fa0 : Int)), is (.pointer (some ⟨bq, oq + fa0 * 4, none⟩)), is (.pointer (some ⟨bq, oq + fa0 * 4 + 2, none⟩)), is (.agg #[.int .i64 FA0.h1, .int .i64 FA0.h2]), iI FA0.h1, iI ((PA0.t1 + PA2.t1) + FA0.h1), iI ((PA0.t1 + PA2.t1) + FA0.h1)])
  ⟨fun f s W c d h j k a => opm (a.v 4 ((j 11 4 rfl rfl).trans k20_4)),
  fun f s W c d h j k a => opm (a.v 1 k20_1),
  fun f s W c d h j k a => opv rfl rfl (by simp [go_sem, a.e 2 k20_2]) rfl,
  fun f s W c d h j k a => opv rfl rfl (by simp [go_sem, a.e 43 (d 2 rfl)]) rfl,
  fun f s W c d h j k a => opv rfl rfl (by simp [go_sem, a.e 44 (d 3 rfl), cb b20_0 c 3]) rfl,
  fun f s W c d h j k a => opm (a.v 8 k20_8),
  fun f s W c d h j k a => by have li_ := Nat.not_le.2 hfa0; have lz_ : (fa0 : Int) < (nq : Int) := (by omega); exact opv rfl rfl (by simp [go_sem, a.e 45 (d 4 rfl), a.e 46 (d 5 rfl), li_, hfa0, lz_]) rfl,
  fun f s W c d h j k a => opv rfl rfl (by simp [go_sem, a.e 47 (d 6 rfl)]) rfl,
  fun f s W c d h j k a => by have l := bwt fB20 c; have E_ := (hQ.below l).2 fa0 hfa0; rw [efa0] at E_; obtain ⟨u0_, u1_, u2_, u3_⟩ := E_; have v0_ : W.cell? ⟨bq, oq + fa0 * 4 + 2, none⟩ = some (.int .i64 FA0.h1) := u2_; have v1_ : W.cell? ⟨bq, oq + fa0 * 4 + 2 + 1, none⟩ = some (.int .i64 FA0.h2) := u3_; exact opv rfl rfl (by simp [go_sem, a.e 48 (d 7 rfl), v0_, v1_]) rfl,
  fun f s W c d h j k a => opc rfl rfl (by simp [go_sem, a.e 49 (d 8 rfl), a.e 42 (d 1 rfl)]) (low_ok (FA0.h1) (FA0.h2) W),
  fun f s W c d h j k a => opv rfl rfl (by simp [go_sem, a.e 41 (d 0 rfl), a.e 50 (d 9 rfl), IntWalk.i64_in ((PA0.t1 + PA2.t1) + FA0.h1) (by omega)]) rfl,
  fun f s W c d h j k a => opm (a.v 51 (d 10 rfl)), trivial⟩ ?_
 intro f21 s21 W21 hB21 g21 hg21 z21
 refine wpe ?_
 have k21_37 := kt hg21 37 (kt hg20 37 k19_37)
 refine ibn ?_
 refine hK33 _ _ ?_
 refine ry 2 [(52, 0), (37, 1)] [[], [0]] (rel [iI 1, iI 1])
  ⟨fun f s W c d h j k a => opv rfl rfl (by simp [go_sem, a.e 37 ((j 1 37 rfl rfl).trans k21_37), IntWalk.i64_in (1) (by omega)]) rfl,
  fun f s W c d h j k a => opm (a.v 52 (d 0 rfl)), trivial⟩ ?_
 intro f22 s22 W22 hB22 g22 hg22 z22
 refine wpe ?_
 have k22_36 := kt hg22 36 (kt hg21 36 (kt hg20 36 (kt hg19 36 k18_36)))
 have k22_37 := kt hg22 37 (hB22.is 1)
 refine then_normal ?_
 rw [rounds_succ]
 refine rw_ 1 [(38, 0)] [[]] (rel [iB false])
  ⟨fun f s W c d h j k a => opv rfl rfl (by simp [go_sem, a.e 37 k22_37, a.e 36 k22_36]) rfl, trivial⟩ ?_
 intro f23 s23 W23 hB23 g23 hg23 z23
 have k23_4 := kt hg23 4 (kt hg22 4 (kt hg21 4 (hB21.is 11)))
 have k23_38 := kt hg23 38 (hB23.is 0)
 refine wp_seq_k fun K36 hK36 => ?_
 refine wp_cond_false ((fr_eval rfl).trans k23_38) ?_
 refine wp_exit ?_
 refine then_exit ?_
 refine then_exit ?_
 refine inBlock_at ?_
 refine hK28 _ _ ?_
 refine rw_ 2 [(53, 0), (4, 1)] [[], [0]] (rel [iI ((PA0.t1 + PA2.t1) + FA0.h1), iI ((PA0.t1 + PA2.t1) + FA0.h1)])
  ⟨fun f s W c d h j k a => opm (a.v 4 ((j 1 4 rfl rfl).trans k23_4)),
  fun f s W c d h j k a => opm (a.v 53 (d 0 rfl)), trivial⟩ ?_
 intro f24 s24 W24 hB24 g24 hg24 z24
 have fB24 := hB24.f (hB23.f (hB22.f (hB21.f fB20)))
 have k24_4 := kt hg24 4 (hB24.is 1)
 refine wp_ret ?_
 refine leave_one (N := 54) (.inr rfl) Try.results59 rfl k24_4 ?_
 exact ⟨rfl, fB24⟩
theorem caliper_1_2 (ps : Nat → Pa) (qs : Nat → Fu) (bp oP np cp bq oq nq cq : Nat) (tx ux cx tf uf cf pa0 pa1 pa2 fa0 : Nat) (PA0 PA1 PA2 : Pa) (FA0 : Fu) (wh : Int) (w : World) (hP : PaR w bp oP np ps) (hQ : FuR w bq oq nq qs) (hpi : ∀ i, i < np → PaIn (ps i)) (hqi : ∀ i, i < nq → FuIn (qs i)) (np1 : 1 ≤ np) (np8 : np ≤ 8) (nq1 : 1 ≤ nq) (nq4 : nq ≤ 4) (hX : Ii w (some ⟨tx, ux, none⟩) 3 cx [(pa0 : Int), (pa1 : Int), (pa2 : Int)]) (hF : Ii w (some ⟨tf, uf, none⟩) 1 cf [(fa0 : Int)]) (hpa0 : pa0 < np) (epa0 : ps pa0 = PA0) (hpa1 : pa1 < np) (epa1 : ps pa1 = PA1) (hpa2 : pa2 < np) (epa2 : ps pa2 = PA2) (hfa0 : fa0 < nq) (efa0 : qs fa0 = FA0) (hk0 : PA0.kind = 1) (hk1 : PA1.kind = 2) (hk2 : PA2.kind = 1) (hwh : FA0.pitch = wh) (gwh : 0 ≤ wh ∧ wh ≤ 100000000) (gw1 : 0 ≤ FA0.pitch ∧ FA0.pitch ≤ 10000) :
  Calls Try.prog 59 #[.agg #[.slice (some ⟨tx, ux, none⟩) 3 cx, .slice (some ⟨tf, uf, none⟩) 1 cf, .slice (some ⟨bp, oP, none⟩) np cp, .slice (some ⟨bq, oq, none⟩) nq cq, .int .i64 wh], .func (.func 57) #[] #[]] w (fun e w' => e = .returned (.int .i64 ((PA0.t2 + PA2.t2) + FA0.h2)) ∧ Below w.heap.size w w') := by
 have gi0 := (epa0 ▸ hpi pa0 hpa0 : PaIn PA0).thick
 have gi1 := (epa1 ▸ hpi pa1 hpa1 : PaIn PA1).thick
 have gi2 := (epa2 ▸ hpi pa2 hpa2 : PaIn PA2).thick
 have gj0 := (efa0 ▸ hqi fa0 hfa0 : FuIn FA0).high
 refine calls_fr Try.func59 Try.ntmps59 rfl rfl fun g hg => ?_
 have k0 : g 0 = .agg #[.slice (some ⟨tx, ux, none⟩) 3 cx, .slice (some ⟨tf, uf, none⟩) 1 cf, .slice (some ⟨bp, oP, none⟩) np cp, .slice (some ⟨bq, oq, none⟩) nq cq, .int .i64 wh] := hg 0
 have k1 : g 1 = .func (.func 57) #[] #[] := hg 1
 clear hg
 have fB0 : Below w.heap.size w w := Below.refl _ _
 refine rw_ 2 [(2, 0), (4, 1)] [[], []] (rel [bx 0 #[.slice (some ⟨tx, ux, none⟩) 3 cx, .slice (some ⟨tf, uf, none⟩) 1 cf, .slice (some ⟨bp, oP, none⟩) np cp, .slice (some ⟨bq, oq, none⟩) nq cq, .int .i64 wh] 95, iI 0])
  ⟨fun f s W c d h j k a => opb rfl rfl (by simp [go_sem, a.e 0 k0]),
  fun f s W c d h j k a => opz, trivial⟩ ?_
 intro f1 s1 W1 hB1 g1 hg1 z1
 obtain ⟨r1_0, br1_0⟩ := hB1.is 0
 have lr1_0 := hB1.lr 0 br1_0
 have k1_2 := kt hg1 2 r1_0
 refine wp_seq_k fun K2 hK2 => ?_
 refine rw_ 5 [(9, 0), (10, 1), (11, 2), (12, 3), (13, 4)] [[], [0], [1], [2], []] (rel [is (.pointer (some ⟨(s1 0), 0, none⟩)), is (.pointer (some ⟨(s1 0), 0, none⟩)), is (.slice (some ⟨tx, ux, none⟩) 3 cx), iI 3, iI 0])
  ⟨fun f s W c d h j k a => opv rfl rfl (by simp [go_sem, a.e 2 k1_2]) rfl,
  fun f s W c d h j k a => opv rfl rfl (by simp [go_sem, a.e 9 (d 0 rfl)]) rfl,
  fun f s W c d h j k a => opv rfl rfl (by simp [go_sem, a.e 10 (d 1 rfl), cb br1_0 c 0]) rfl,
  fun f s W c d h j k a => opv rfl rfl (by simp [go_sem, a.e 11 (d 2 rfl)]) rfl,
  fun f s W c d h j k a => opz, trivial⟩ ?_
 intro f2 s2 W2 hB2 g2 hg2 z2
 have k2_12 := kt hg2 12 (hB2.is 3)
 have k2_13 := kt hg2 13 (hB2.is 4)
 refine wp_block ?_
 refine wp_loop_rounds 4 ?_
 rw [rounds_succ]
 refine rw_ 1 [(14, 0)] [[]] (rel [iB true])
  ⟨fun f s W c d h j k a => opv rfl rfl (by simp [go_sem, a.e 13 k2_13, a.e 12 k2_12]) rfl, trivial⟩ ?_
 intro f3 s3 W3 hB3 g3 hg3 z3
 have fB3 := hB3.f (hB2.f (hB1.f fB0))
 have k3_11 := kt hg3 11 (kt hg2 11 (hB2.is 2))
 have k3_13 := kt hg3 13 k2_13
 have k3_14 := kt hg3 14 (hB3.is 0)
 refine wp_seq_k fun K5 hK5 => ?_
 refine wp_cond_true ((fr_eval rfl).trans k3_14) ?_
 refine wp_skip ?_
 refine hK5 _ _ ?_
 refine wp_seq_k fun K7 hK7 => ?_
 refine wp_block ?_
 refine rw_ 5 [(15, 0), (16, 1), (17, 2), (5, 3), (6, 4)] [[], [], [1], [0], [2]] (rel [iI 0, is (.pointer (some ⟨tx, ux, none⟩)), iI ((pa0 : Int)), iI 0, iI ((pa0 : Int))])
  ⟨fun f s W c d h j k a => opm (a.v 13 k3_13),
  fun f s W c d h j k a => opv rfl rfl (by simp [go_sem, a.e 11 k3_11, a.e 13 k3_13]) rfl,
  fun f s W c d h j k a => by have l := bwt fB3 c; have cu : W.cell? ⟨tx, ux, none⟩ = some (.int .i64 (pa0 : Int)) := ii_cell (hX.below l (Nat.le_refl _)) 0 (by simp); exact opv rfl rfl (by simp [go_sem, a.e 16 (d 1 rfl), cu]) rfl,
  fun f s W c d h j k a => opm (a.v 15 (d 0 rfl)),
  fun f s W c d h j k a => opm (a.v 17 (d 2 rfl)), trivial⟩ ?_
 intro f4 s4 W4 hB4 g4 hg4 z4
 have k4_5 := kt hg4 5 (hB4.is 3)
 refine rw_ 3 [(18, 0), (19, 1), (20, 2)] [[], [0], [1]] (rel [iI 0, iI 0, iB true])
  ⟨fun f s W c d h j k a => opm (a.v 5 k4_5),
  fun f s W c d h j k a => by have qw_ := IntWalk.i64_in (0) (by decide); exact opv rfl rfl (by simp [go_sem, a.e 18 (d 0 rfl), qw_]) rfl,
  fun f s W c d h j k a => opv rfl rfl (by simp [go_sem, a.e 19 (d 1 rfl)]) rfl, trivial⟩ ?_
 intro f5 s5 W5 hB5 g5 hg5 z5
 have fB5 := hB5.f (hB4.f fB3)
 have b5_0 := hB5.b (hB4.b (hB3.b (hB2.b br1_0)))
 have k5_1 := kt hg5 1 (kt hg4 1 (kt hg3 1 (kt hg2 1 (kt hg1 1 k1))))
 have k5_2 := kt hg5 2 (kt hg4 2 (kt hg3 2 (kt hg2 2 k1_2)))
 have k5_4 := kt hg5 4 (kt hg4 4 (kt hg3 4 (kt hg2 4 (kt hg1 4 (hB1.is 1)))))
 have k5_6 := kt hg5 6 (kt hg4 6 (hB4.is 4))
 have k5_20 := kt hg5 20 (hB5.is 2)
 refine wp_cond_true ((fr_eval rfl).trans k5_20) ?_
 refine ry 12 [(21, 0), (22, 1), (23, 2), (24, 3), (25, 4), (26, 5), (27, 6), (28, 7), (29, 8), (30, 9), (31, 10), (4, 11)] [[], [], [], [2], [3], [], [4, 5], [6], [7], [1, 8], [0, 9], [0, 10]] (rel [iI 0, is (.func (.func 57) #[] #[]), is (.pointer (some ⟨(s1 0), 2, none⟩)), is (.pointer (some ⟨(s1 0), 2, none⟩)), is (.slice (some ⟨bp, oP, none⟩) np cp), iI ((pa0 : Int)), is (.pointer (some ⟨bp, oP + pa0 * 8, none⟩)), is (.pointer (some ⟨bp, oP + pa0 * 8 + 2, none⟩)), is (.agg #[.int .i64 PA0.t1, .int .i64 PA0.t2]), iI PA0.t2, iI PA0.t2, iI PA0.t2])
  ⟨fun f s W c d h j k a => opm (a.v 4 ((j 11 4 rfl rfl).trans k5_4)),
  fun f s W c d h j k a => opm (a.v 1 k5_1),
  fun f s W c d h j k a => opv rfl rfl (by simp [go_sem, a.e 2 k5_2]) rfl,
  fun f s W c d h j k a => opv rfl rfl (by simp [go_sem, a.e 23 (d 2 rfl)]) rfl,
  fun f s W c d h j k a => opv rfl rfl (by simp [go_sem, a.e 24 (d 3 rfl), cb b5_0 c 2]) rfl,
  fun f s W c d h j k a => opm (a.v 6 k5_6),
  fun f s W c d h j k a => by have li_ := Nat.not_le.2 hpa0; have lz_ : (pa0 : Int) < (np : Int) := (by omega); exact opv rfl rfl (by simp [go_sem, a.e 25 (d 4 rfl), a.e 26 (d 5 rfl), li_, hpa0, lz_]) rfl,
  fun f s W c d h j k a => opv rfl rfl (by simp [go_sem, a.e 27 (d 6 rfl)]) rfl,
  fun f s W c d h j k a => by have l := bwt fB5 c; have E_ := (hP.below l).2 pa0 hpa0; rw [epa0] at E_; obtain ⟨u0_, u1_, u2_, u3_, u4_, u5_, u6_, u7_⟩ := E_; have v0_ : W.cell? ⟨bp, oP + pa0 * 8 + 2, none⟩ = some (.int .i64 PA0.t1) := u2_; have v1_ : W.cell? ⟨bp, oP + pa0 * 8 + 2 + 1, none⟩ = some (.int .i64 PA0.t2) := u3_; exact opv rfl rfl (by simp [go_sem, a.e 28 (d 7 rfl), v0_, v1_]) rfl,
  fun f s W c d h j k a => opc rfl rfl (by simp [go_sem, a.e 29 (d 8 rfl), a.e 22 (d 1 rfl)]) (high_ok (PA0.t1) (PA0.t2) W),
  fun f s W c d h j k a => opv rfl rfl (by simp [go_sem, a.e 21 (d 0 rfl), a.e 30 (d 9 rfl), IntWalk.i64_in (PA0.t2) (by omega)]) rfl,
  fun f s W c d h j k a => opm (a.v 31 (d 10 rfl)), trivial⟩ ?_
 intro f6 s6 W6 hB6 g6 hg6 z6
 refine wpe ?_
 have k6_13 := kt hg6 13 (kt hg5 13 (kt hg4 13 k3_13))
 refine ibn ?_
 refine hK7 _ _ ?_
 refine ry 2 [(32, 0), (13, 1)] [[], [0]] (rel [iI 1, iI 1])
  ⟨fun f s W c d h j k a => opv rfl rfl (by simp [go_sem, a.e 13 ((j 1 13 rfl rfl).trans k6_13), IntWalk.i64_in (1) (by omega)]) rfl,
  fun f s W c d h j k a => opm (a.v 32 (d 0 rfl)), trivial⟩ ?_
 intro f7 s7 W7 hB7 g7 hg7 z7
 refine wpe ?_
 have k7_12 := kt hg7 12 (kt hg6 12 (kt hg5 12 (kt hg4 12 (kt hg3 12 k2_12))))
 have k7_13 := kt hg7 13 (hB7.is 1)
 refine then_normal ?_
 rw [rounds_succ]
 refine rw_ 1 [(14, 0)] [[]] (rel [iB true])
  ⟨fun f s W c d h j k a => opv rfl rfl (by simp [go_sem, a.e 13 k7_13, a.e 12 k7_12]) rfl, trivial⟩ ?_
 intro f8 s8 W8 hB8 g8 hg8 z8
 have fB8 := hB8.f (hB7.f (hB6.f fB5))
 have k8_11 := kt hg8 11 (kt hg7 11 (kt hg6 11 (kt hg5 11 (kt hg4 11 k3_11))))
 have k8_13 := kt hg8 13 k7_13
 have k8_14 := kt hg8 14 (hB8.is 0)
 refine wp_seq_k fun K12 hK12 => ?_
 refine wp_cond_true ((fr_eval rfl).trans k8_14) ?_
 refine wp_skip ?_
 refine hK12 _ _ ?_
 refine wp_seq_k fun K14 hK14 => ?_
 refine wp_block ?_
 refine rw_ 5 [(15, 0), (16, 1), (17, 2), (5, 3), (6, 4)] [[], [], [1], [0], [2]] (rel [iI 1, is (.pointer (some ⟨tx, ux + 1, none⟩)), iI ((pa1 : Int)), iI 1, iI ((pa1 : Int))])
  ⟨fun f s W c d h j k a => opm (a.v 13 k8_13),
  fun f s W c d h j k a => opv rfl rfl (by simp [go_sem, a.e 11 k8_11, a.e 13 k8_13]) rfl,
  fun f s W c d h j k a => by have l := bwt fB8 c; have cu : W.cell? ⟨tx, ux + 1, none⟩ = some (.int .i64 (pa1 : Int)) := ii_cell (hX.below l (Nat.le_refl _)) 1 (by simp); exact opv rfl rfl (by simp [go_sem, a.e 16 (d 1 rfl), cu]) rfl,
  fun f s W c d h j k a => opm (a.v 15 (d 0 rfl)),
  fun f s W c d h j k a => opm (a.v 17 (d 2 rfl)), trivial⟩ ?_
 intro f9 s9 W9 hB9 g9 hg9 z9
 have k9_5 := kt hg9 5 (hB9.is 3)
 refine rw_ 3 [(18, 0), (19, 1), (20, 2)] [[], [0], [1]] (rel [iI 1, iI 1, iB false])
  ⟨fun f s W c d h j k a => opm (a.v 5 k9_5),
  fun f s W c d h j k a => by have qw_ := IntWalk.i64_in (1) (by decide); exact opv rfl rfl (by simp [go_sem, a.e 18 (d 0 rfl), qw_]) rfl,
  fun f s W c d h j k a => opv rfl rfl (by simp [go_sem, a.e 19 (d 1 rfl)]) rfl, trivial⟩ ?_
 intro f10 s10 W10 hB10 g10 hg10 z10
 have k10_13 := kt hg10 13 (kt hg9 13 k8_13)
 have k10_20 := kt hg10 20 (hB10.is 2)
 refine wp_cond_false ((fr_eval rfl).trans k10_20) ?_
 refine wp_skip ?_
 refine ibn ?_
 refine hK14 _ _ ?_
 refine ry 2 [(32, 0), (13, 1)] [[], [0]] (rel [iI 2, iI 2])
  ⟨fun f s W c d h j k a => opv rfl rfl (by simp [go_sem, a.e 13 ((j 1 13 rfl rfl).trans k10_13), IntWalk.i64_in (2) (by omega)]) rfl,
  fun f s W c d h j k a => opm (a.v 32 (d 0 rfl)), trivial⟩ ?_
 intro f11 s11 W11 hB11 g11 hg11 z11
 refine wpe ?_
 have k11_12 := kt hg11 12 (kt hg10 12 (kt hg9 12 (kt hg8 12 k7_12)))
 have k11_13 := kt hg11 13 (hB11.is 1)
 refine then_normal ?_
 rw [rounds_succ]
 refine rw_ 1 [(14, 0)] [[]] (rel [iB true])
  ⟨fun f s W c d h j k a => opv rfl rfl (by simp [go_sem, a.e 13 k11_13, a.e 12 k11_12]) rfl, trivial⟩ ?_
 intro f12 s12 W12 hB12 g12 hg12 z12
 have fB12 := hB12.f (hB11.f (hB10.f (hB9.f fB8)))
 have k12_11 := kt hg12 11 (kt hg11 11 (kt hg10 11 (kt hg9 11 k8_11)))
 have k12_13 := kt hg12 13 k11_13
 have k12_14 := kt hg12 14 (hB12.is 0)
 refine wp_seq_k fun K19 hK19 => ?_
 refine wp_cond_true ((fr_eval rfl).trans k12_14) ?_
 refine wp_skip ?_
 refine hK19 _ _ ?_
 refine wp_seq_k fun K21 hK21 => ?_
 refine wp_block ?_
 refine rw_ 5 [(15, 0), (16, 1), (17, 2), (5, 3), (6, 4)] [[], [], [1], [0], [2]] (rel [iI 2, is (.pointer (some ⟨tx, ux + 2, none⟩)), iI ((pa2 : Int)), iI 2, iI ((pa2 : Int))])
  ⟨fun f s W c d h j k a => opm (a.v 13 k12_13),
  fun f s W c d h j k a => opv rfl rfl (by simp [go_sem, a.e 11 k12_11, a.e 13 k12_13]) rfl,
  fun f s W c d h j k a => by have l := bwt fB12 c; have cu : W.cell? ⟨tx, ux + 2, none⟩ = some (.int .i64 (pa2 : Int)) := ii_cell (hX.below l (Nat.le_refl _)) 2 (by simp); exact opv rfl rfl (by simp [go_sem, a.e 16 (d 1 rfl), cu]) rfl,
  fun f s W c d h j k a => opm (a.v 15 (d 0 rfl)),
  fun f s W c d h j k a => opm (a.v 17 (d 2 rfl)), trivial⟩ ?_
 intro f13 s13 W13 hB13 g13 hg13 z13
 have k13_5 := kt hg13 5 (hB13.is 3)
 refine rw_ 3 [(18, 0), (19, 1), (20, 2)] [[], [0], [1]] (rel [iI 2, iI 0, iB true])
  ⟨fun f s W c d h j k a => opm (a.v 5 k13_5),
  fun f s W c d h j k a => by have qw_ := IntWalk.i64_in (0) (by decide); exact opv rfl rfl (by simp [go_sem, a.e 18 (d 0 rfl), qw_]) rfl,
  fun f s W c d h j k a => opv rfl rfl (by simp [go_sem, a.e 19 (d 1 rfl)]) rfl, trivial⟩ ?_
 intro f14 s14 W14 hB14 g14 hg14 z14
 have fB14 := hB14.f (hB13.f fB12)
 have b14_0 := hB14.b (hB13.b (hB12.b (hB11.b (hB10.b (hB9.b (hB8.b (hB7.b (hB6.b b5_0))))))))
 have k14_1 := kt hg14 1 (kt hg13 1 (kt hg12 1 (kt hg11 1 (kt hg10 1 (kt hg9 1 (kt hg8 1 (kt hg7 1 (kt hg6 1 k5_1))))))))
 have k14_2 := kt hg14 2 (kt hg13 2 (kt hg12 2 (kt hg11 2 (kt hg10 2 (kt hg9 2 (kt hg8 2 (kt hg7 2 (kt hg6 2 k5_2))))))))
 have k14_4 := kt hg14 4 (kt hg13 4 (kt hg12 4 (kt hg11 4 (kt hg10 4 (kt hg9 4 (kt hg8 4 (kt hg7 4 (kt hg6 4 (hB6.is 11)))))))))
 have k14_6 := kt hg14 6 (kt hg13 6 (hB13.is 4))
 have k14_20 := kt hg14 20 (hB14.is 2)
 refine wp_cond_true ((fr_eval rfl).trans k14_20) ?_
 refine ry 12 [(21, 0), (22, 1), (23, 2), (24, 3), (25, 4), (26, 5), (27, 6), (28, 7), (29, 8), (30, 9), (31, 10), (4, 11)] [[], [], [], [2], [3], [], [4, 5], [6], [7], [1, 8], [0, 9], [0, 10]] (rel [iI PA0.t2, is (.func (.func 57) #[] #[]), is (.pointer (some ⟨(s1 0), 2, none⟩)), is (.pointer (some ⟨(s1 0), 2, none⟩)), is (.slice (some ⟨bp, oP, none⟩) np cp), iI ((pa2 : Int)), is (.pointer (some ⟨bp, oP + pa2 * 8, none⟩)), is (.pointer (some ⟨bp, oP + pa2 * 8 + 2, none⟩)), is (.agg #[.int .i64 PA2.t1, .int .i64 PA2.t2]), iI PA2.t2, iI (PA0.t2 + PA2.t2), iI (PA0.t2 + PA2.t2)])
  ⟨fun f s W c d h j k a => opm (a.v 4 ((j 11 4 rfl rfl).trans k14_4)),
  fun f s W c d h j k a => opm (a.v 1 k14_1),
  fun f s W c d h j k a => opv rfl rfl (by simp [go_sem, a.e 2 k14_2]) rfl,
  fun f s W c d h j k a => opv rfl rfl (by simp [go_sem, a.e 23 (d 2 rfl)]) rfl,
  fun f s W c d h j k a => opv rfl rfl (by simp [go_sem, a.e 24 (d 3 rfl), cb b14_0 c 2]) rfl,
  fun f s W c d h j k a => opm (a.v 6 k14_6),
  fun f s W c d h j k a => by have li_ := Nat.not_le.2 hpa2; have lz_ : (pa2 : Int) < (np : Int) := (by omega); exact opv rfl rfl (by simp [go_sem, a.e 25 (d 4 rfl), a.e 26 (d 5 rfl), li_, hpa2, lz_]) rfl,
  fun f s W c d h j k a => opv rfl rfl (by simp [go_sem, a.e 27 (d 6 rfl)]) rfl,
  fun f s W c d h j k a => by have l := bwt fB14 c; have E_ := (hP.below l).2 pa2 hpa2; rw [epa2] at E_; obtain ⟨u0_, u1_, u2_, u3_, u4_, u5_, u6_, u7_⟩ := E_; have v0_ : W.cell? ⟨bp, oP + pa2 * 8 + 2, none⟩ = some (.int .i64 PA2.t1) := u2_; have v1_ : W.cell? ⟨bp, oP + pa2 * 8 + 2 + 1, none⟩ = some (.int .i64 PA2.t2) := u3_; exact opv rfl rfl (by simp [go_sem, a.e 28 (d 7 rfl), v0_, v1_]) rfl,
  fun f s W c d h j k a => opc rfl rfl (by simp [go_sem, a.e 29 (d 8 rfl), a.e 22 (d 1 rfl)]) (high_ok (PA2.t1) (PA2.t2) W),
  fun f s W c d h j k a => opv rfl rfl (by simp [go_sem, a.e 21 (d 0 rfl), a.e 30 (d 9 rfl), IntWalk.i64_in (PA0.t2 + PA2.t2) (by omega)]) rfl,
  fun f s W c d h j k a => opm (a.v 31 (d 10 rfl)), trivial⟩ ?_
 intro f15 s15 W15 hB15 g15 hg15 z15
 refine wpe ?_
 have k15_13 := kt hg15 13 (kt hg14 13 (kt hg13 13 k12_13))
 refine ibn ?_
 refine hK21 _ _ ?_
 refine ry 2 [(32, 0), (13, 1)] [[], [0]] (rel [iI 3, iI 3])
  ⟨fun f s W c d h j k a => opv rfl rfl (by simp [go_sem, a.e 13 ((j 1 13 rfl rfl).trans k15_13), IntWalk.i64_in (3) (by omega)]) rfl,
  fun f s W c d h j k a => opm (a.v 32 (d 0 rfl)), trivial⟩ ?_
 intro f16 s16 W16 hB16 g16 hg16 z16
 refine wpe ?_
 have k16_12 := kt hg16 12 (kt hg15 12 (kt hg14 12 (kt hg13 12 (kt hg12 12 k11_12))))
 have k16_13 := kt hg16 13 (hB16.is 1)
 refine then_normal ?_
 rw [rounds_succ]
 refine rw_ 1 [(14, 0)] [[]] (rel [iB false])
  ⟨fun f s W c d h j k a => opv rfl rfl (by simp [go_sem, a.e 13 k16_13, a.e 12 k16_12]) rfl, trivial⟩ ?_
 intro f17 s17 W17 hB17 g17 hg17 z17
 have b17_0 := hB17.b (hB16.b (hB15.b b14_0))
 have k17_2 := kt hg17 2 (kt hg16 2 (kt hg15 2 k14_2))
 have k17_14 := kt hg17 14 (hB17.is 0)
 refine wp_seq_k fun K26 hK26 => ?_
 refine wp_cond_false ((fr_eval rfl).trans k17_14) ?_
 refine wp_exit ?_
 refine then_exit ?_
 refine then_exit ?_
 refine inBlock_at ?_
 refine hK2 _ _ ?_
 refine wp_seq_k fun K28 hK28 => ?_
 refine rw_ 5 [(33, 0), (34, 1), (35, 2), (36, 3), (37, 4)] [[], [0], [1], [2], []] (rel [is (.pointer (some ⟨(s1 0), 0, none⟩)), is (.pointer (some ⟨(s1 0), 1, none⟩)), is (.slice (some ⟨tf, uf, none⟩) 1 cf), iI 1, iI 0])
  ⟨fun f s W c d h j k a => opv rfl rfl (by simp [go_sem, a.e 2 k17_2]) rfl,
  fun f s W c d h j k a => opv rfl rfl (by simp [go_sem, a.e 33 (d 0 rfl)]) rfl,
  fun f s W c d h j k a => opv rfl rfl (by simp [go_sem, a.e 34 (d 1 rfl), cb b17_0 c 1]) rfl,
  fun f s W c d h j k a => opv rfl rfl (by simp [go_sem, a.e 35 (d 2 rfl)]) rfl,
  fun f s W c d h j k a => opz, trivial⟩ ?_
 intro f18 s18 W18 hB18 g18 hg18 z18
 have k18_36 := kt hg18 36 (hB18.is 3)
 have k18_37 := kt hg18 37 (hB18.is 4)
 refine wp_block ?_
 refine wp_loop_rounds 2 ?_
 rw [rounds_succ]
 refine rw_ 1 [(38, 0)] [[]] (rel [iB true])
  ⟨fun f s W c d h j k a => opv rfl rfl (by simp [go_sem, a.e 37 k18_37, a.e 36 k18_36]) rfl, trivial⟩ ?_
 intro f19 s19 W19 hB19 g19 hg19 z19
 have fB19 := hB19.f (hB18.f (hB17.f (hB16.f (hB15.f fB14))))
 have k19_35 := kt hg19 35 (kt hg18 35 (hB18.is 2))
 have k19_37 := kt hg19 37 k18_37
 have k19_38 := kt hg19 38 (hB19.is 0)
 refine wp_seq_k fun K31 hK31 => ?_
 refine wp_cond_true ((fr_eval rfl).trans k19_38) ?_
 refine wp_skip ?_
 refine hK31 _ _ ?_
 refine wp_seq_k fun K33 hK33 => ?_
 refine wp_block ?_
 refine rw_ 3 [(39, 0), (40, 1), (8, 2)] [[], [0], [1]] (rel [is (.pointer (some ⟨tf, uf, none⟩)), iI ((fa0 : Int)), iI ((fa0 : Int))])
  ⟨fun f s W c d h j k a => opv rfl rfl (by simp [go_sem, a.e 35 k19_35, a.e 37 k19_37]) rfl,
  fun f s W c d h j k a => by have l := bwt fB19 c; have cu : W.cell? ⟨tf, uf, none⟩ = some (.int .i64 (fa0 : Int)) := ii_cell (hF.below l (Nat.le_refl _)) 0 (by simp); exact opv rfl rfl (by simp [go_sem, a.e 39 (d 0 rfl), cu]) rfl,
  fun f s W c d h j k a => opm (a.v 40 (d 1 rfl)), trivial⟩ ?_
 intro f20 s20 W20 hB20 g20 hg20 z20
 have fB20 := hB20.f fB19
 have b20_0 := hB20.b (hB19.b (hB18.b b17_0))
 have k20_1 := kt hg20 1 (kt hg19 1 (kt hg18 1 (kt hg17 1 (kt hg16 1 (kt hg15 1 k14_1)))))
 have k20_2 := kt hg20 2 (kt hg19 2 (kt hg18 2 k17_2))
 have k20_4 := kt hg20 4 (kt hg19 4 (kt hg18 4 (kt hg17 4 (kt hg16 4 (kt hg15 4 (hB15.is 11))))))
 have k20_8 := kt hg20 8 (hB20.is 2)
 refine ry 12 [(41, 0), (42, 1), (43, 2), (44, 3), (45, 4), (46, 5), (47, 6), (48, 7), (49, 8), (50, 9), (51, 10), (4, 11)] [[], [], [], [2], [3], [], [4, 5], [6], [7], [1, 8], [0, 9], [0, 10]] (rel [iI (PA0.t2 + PA2.t2), is (.func (.func 57) #[] #[]), is (.pointer (some ⟨(s1 0), 2, none⟩)), is (.pointer (some ⟨(s1 0), 3, none⟩)), is (.slice (some ⟨bq, oq, none⟩) nq cq), iI ((fa0 : Int)), is (.pointer (some ⟨bq, oq + fa0 * 4, none⟩)), is (.pointer (some ⟨bq, oq + fa0 * 4 + 2, none⟩)), is (.agg #[.int .i64 FA0.h1, .int .i64 FA0.h2]), iI FA0.h2, iI ((PA0.t2 + PA2.t2) + FA0.h2), iI ((PA0.t2 + PA2.t2) + FA0.h2)])
  ⟨fun f s W c d h j k a => opm (a.v 4 ((j 11 4 rfl rfl).trans k20_4)),
  fun f s W c d h j k a => opm (a.v 1 k20_1),
  fun f s W c d h j k a => opv rfl rfl (by simp [go_sem, a.e 2 k20_2]) rfl,
  fun f s W c d h j k a => opv rfl rfl (by simp [go_sem, a.e 43 (d 2 rfl)]) rfl,
  fun f s W c d h j k a => opv rfl rfl (by simp [go_sem, a.e 44 (d 3 rfl), cb b20_0 c 3]) rfl,
  fun f s W c d h j k a => opm (a.v 8 k20_8),
  fun f s W c d h j k a => by have li_ := Nat.not_le.2 hfa0; have lz_ : (fa0 : Int) < (nq : Int) := (by omega); exact opv rfl rfl (by simp [go_sem, a.e 45 (d 4 rfl), a.e 46 (d 5 rfl), li_, hfa0, lz_]) rfl,
  fun f s W c d h j k a => opv rfl rfl (by simp [go_sem, a.e 47 (d 6 rfl)]) rfl,
  fun f s W c d h j k a => by have l := bwt fB20 c; have E_ := (hQ.below l).2 fa0 hfa0; rw [efa0] at E_; obtain ⟨u0_, u1_, u2_, u3_⟩ := E_; have v0_ : W.cell? ⟨bq, oq + fa0 * 4 + 2, none⟩ = some (.int .i64 FA0.h1) := u2_; have v1_ : W.cell? ⟨bq, oq + fa0 * 4 + 2 + 1, none⟩ = some (.int .i64 FA0.h2) := u3_; exact opv rfl rfl (by simp [go_sem, a.e 48 (d 7 rfl), v0_, v1_]) rfl,
  fun f s W c d h j k a => opc rfl rfl (by simp [go_sem, a.e 49 (d 8 rfl), a.e 42 (d 1 rfl)]) (high_ok (FA0.h1) (FA0.h2) W),
  fun f s W c d h j k a => opv rfl rfl (by simp [go_sem, a.e 41 (d 0 rfl), a.e 50 (d 9 rfl), IntWalk.i64_in ((PA0.t2 + PA2.t2) + FA0.h2) (by omega)]) rfl,
  fun f s W c d h j k a => opm (a.v 51 (d 10 rfl)), trivial⟩ ?_
 intro f21 s21 W21 hB21 g21 hg21 z21
 refine wpe ?_
 have k21_37 := kt hg21 37 (kt hg20 37 k19_37)
 refine ibn ?_
 refine hK33 _ _ ?_
 refine ry 2 [(52, 0), (37, 1)] [[], [0]] (rel [iI 1, iI 1])
  ⟨fun f s W c d h j k a => opv rfl rfl (by simp [go_sem, a.e 37 ((j 1 37 rfl rfl).trans k21_37), IntWalk.i64_in (1) (by omega)]) rfl,
  fun f s W c d h j k a => opm (a.v 52 (d 0 rfl)), trivial⟩ ?_
 intro f22 s22 W22 hB22 g22 hg22 z22
 refine wpe ?_
 have k22_36 := kt hg22 36 (kt hg21 36 (kt hg20 36 (kt hg19 36 k18_36)))
 have k22_37 := kt hg22 37 (hB22.is 1)
 refine then_normal ?_
 rw [rounds_succ]
 refine rw_ 1 [(38, 0)] [[]] (rel [iB false])
  ⟨fun f s W c d h j k a => opv rfl rfl (by simp [go_sem, a.e 37 k22_37, a.e 36 k22_36]) rfl, trivial⟩ ?_
 intro f23 s23 W23 hB23 g23 hg23 z23
 have k23_4 := kt hg23 4 (kt hg22 4 (kt hg21 4 (hB21.is 11)))
 have k23_38 := kt hg23 38 (hB23.is 0)
 refine wp_seq_k fun K36 hK36 => ?_
 refine wp_cond_false ((fr_eval rfl).trans k23_38) ?_
 refine wp_exit ?_
 refine then_exit ?_
 refine then_exit ?_
 refine inBlock_at ?_
 refine hK28 _ _ ?_
 refine rw_ 2 [(53, 0), (4, 1)] [[], [0]] (rel [iI ((PA0.t2 + PA2.t2) + FA0.h2), iI ((PA0.t2 + PA2.t2) + FA0.h2)])
  ⟨fun f s W c d h j k a => opm (a.v 4 ((j 1 4 rfl rfl).trans k23_4)),
  fun f s W c d h j k a => opm (a.v 53 (d 0 rfl)), trivial⟩ ?_
 intro f24 s24 W24 hB24 g24 hg24 z24
 have fB24 := hB24.f (hB23.f (hB22.f (hB21.f fB20)))
 have k24_4 := kt hg24 4 (hB24.is 1)
 refine wp_ret ?_
 refine leave_one (N := 54) (.inr rfl) Try.results59 rfl k24_4 ?_
 exact ⟨rfl, fB24⟩
theorem sheetOf_2 (ps : Nat → Pa) (qs : Nat → Fu) (bp oP np cp bq oq nq cq : Nat) (tx ux cx tf uf cf pa0 pa1 pa2 pa3 pa4 fa0 fa1 : Nat) (PA0 PA1 PA2 PA3 PA4 : Pa) (FA0 FA1 : Fu) (wh : Int) (w : World) (hP : PaR w bp oP np ps) (hQ : FuR w bq oq nq qs) (hpi : ∀ i, i < np → PaIn (ps i)) (hqi : ∀ i, i < nq → FuIn (qs i)) (np1 : 1 ≤ np) (np8 : np ≤ 8) (nq1 : 1 ≤ nq) (nq4 : nq ≤ 4) (hX : Ii w (some ⟨tx, ux, none⟩) 5 cx [(pa0 : Int), (pa1 : Int), (pa2 : Int), (pa3 : Int), (pa4 : Int)]) (hF : Ii w (some ⟨tf, uf, none⟩) 2 cf [(fa0 : Int), (fa1 : Int)]) (hpa0 : pa0 < np) (epa0 : ps pa0 = PA0) (hpa1 : pa1 < np) (epa1 : ps pa1 = PA1) (hpa2 : pa2 < np) (epa2 : ps pa2 = PA2) (hpa3 : pa3 < np) (epa3 : ps pa3 = PA3) (hpa4 : pa4 < np) (epa4 : ps pa4 = PA4) (hfa0 : fa0 < nq) (efa0 : qs fa0 = FA0) (hfa1 : fa1 < nq) (efa1 : qs fa1 = FA1) (hk0 : PA0.kind = 1) (hk1 : PA1.kind = 2) (hk2 : PA2.kind = 1) (hk3 : PA3.kind = 2) (hk4 : PA4.kind = 1) (hwh : FA0.pitch * FA1.pitch = wh) (gwh : 0 ≤ wh ∧ wh ≤ 100000000) (gw1 : 0 ≤ FA0.pitch ∧ FA0.pitch ≤ 10000) :
  Calls Try.prog 55 #[.agg #[.slice (some ⟨bp, oP, none⟩) np cp, .slice (some ⟨bq, oq, none⟩) nq cq], .agg #[.slice (some ⟨tx, ux, none⟩) 5 cx, .slice (some ⟨tf, uf, none⟩) 2 cf]] w (fun e w' => e = .returned (.agg #[.slice (some ⟨tx, ux, none⟩) 5 cx, .slice (some ⟨tf, uf, none⟩) 2 cf, .slice (some ⟨bp, oP, none⟩) np cp, .slice (some ⟨bq, oq, none⟩) nq cq, .int .i64 wh]) ∧ Below w.heap.size w w') := by
 have gw2 : 0 ≤ FA0.pitch * FA1.pitch ∧ FA0.pitch * FA1.pitch ≤ 100000000 := by rw [hwh]; exact gwh
 refine calls_fr Try.func55 Try.ntmps55 rfl rfl fun g hg => ?_
 have k0 : g 0 = .agg #[.slice (some ⟨bp, oP, none⟩) np cp, .slice (some ⟨bq, oq, none⟩) nq cq] := hg 0
 have k1 : g 1 = .agg #[.slice (some ⟨tx, ux, none⟩) 5 cx, .slice (some ⟨tf, uf, none⟩) 2 cf] := hg 1
 clear hg
 have fB0 : Below w.heap.size w w := Below.refl _ _
 refine rw_ 3 [(2, 0), (3, 1), (4, 2)] [[], [], []] (rel [bx 0 #[.slice (some ⟨bp, oP, none⟩) np cp, .slice (some ⟨bq, oq, none⟩) nq cq] 68, bx 1 #[.slice (some ⟨tx, ux, none⟩) 5 cx, .slice (some ⟨tf, uf, none⟩) 2 cf] 71, bx 2 #[.slice none 0 0, .slice none 0 0, .slice none 0 0, .slice none 0 0, .int .i64 0] 95])
  ⟨fun f s W c d h j k a => opb rfl rfl (by simp [go_sem, a.e 0 k0]),
  fun f s W c d h j k a => opb rfl rfl (by simp [go_sem, a.e 1 k1]),
  fun f s W c d h j k a => opb rfl rfl (by simp [go_sem]), trivial⟩ ?_
 intro f1 s1 W1 hB1 g1 hg1 z1
 obtain ⟨r1_0, br1_0⟩ := hB1.is 0
 have lr1_0 := hB1.lr 0 br1_0
 obtain ⟨r1_1, br1_1⟩ := hB1.is 1
 have lr1_1 := hB1.lr 1 br1_1
 obtain ⟨r1_2, br1_2⟩ := hB1.is 2
 have lr1_2 := hB1.lr 2 br1_2
 have ne1_0_1 := hB1.nb 0 1
 have ne1_0_2 := hB1.nb 0 2
 have ne1_1_2 := hB1.nb 1 2
 have k1_2 := kt hg1 2 r1_0
 have k1_3 := kt hg1 3 r1_1
 refine wp_seq_k fun K2 hK2 => ?_
 refine ry 4 [(8, 0), (9, 1), (10, 2), (5, 3)] [[], [], [0, 1], [], [0, 1, 2, 3]] (rel [is (.agg #[.slice (some ⟨tx, ux, none⟩) 5 cx, .slice (some ⟨tf, uf, none⟩) 2 cf]), is (.agg #[.slice (some ⟨bp, oP, none⟩) np cp, .slice (some ⟨bq, oq, none⟩) nq cq]), is (.agg #[.slice (some ⟨tx, ux, none⟩) 5 cx, .slice (some ⟨tf, uf, none⟩) 2 cf, .slice (some ⟨bp, oP, none⟩) np cp, .slice (some ⟨bq, oq, none⟩) nq cq, .int .i64 1]), bx 3 #[.slice none 0 0, .slice none 0 0, .slice none 0 0, .slice none 0 0, .int .i64 0] 95])
  ⟨fun f s W c d h j k a => opv rfl rfl (by simp [go_sem, a.e 3 k1_3, cb br1_1 c 0, cb br1_1 c 1]) rfl,
  fun f s W c d h j k a => opv rfl rfl (by simp [go_sem, a.e 2 k1_2, cb br1_0 c 0, cb br1_0 c 1]) rfl,
  fun f s W c d h j k a => opv rfl rfl (by simp [go_sem, a.e 8 (d 0 rfl), a.e 9 (d 1 rfl)]) rfl,
  fun f s W c d h j k a => opb rfl rfl (by simp [go_sem]), trivial⟩ ?_
 intro f2 s2 W2 hB2 g2 hg2 z2
 have fB2 := hB2.f (hB1.f fB0)
 have b2_0 := hB2.b br1_0
 have b2_1 := hB2.b br1_1
 have b2_2 := hB2.b br1_2
 obtain ⟨r2_3, br2_3⟩ := hB2.is 3
 have lr2_3 := hB2.lr 3 br2_3
 have k2_3 := kt hg2 3 k1_3
 have k2_10 := kt hg2 10 (hB2.is 2)
 have k2_5 := kt hg2 5 r2_3
 obtain ⟨W3, hW3⟩ : ∃ W', W' = W2.setRow (s2 3) #[.slice (some ⟨tx, ux, none⟩) 5 cx, .slice (some ⟨tf, uf, none⟩) 2 cf, .slice (some ⟨bp, oP, none⟩) np cp, .slice (some ⟨bq, oq, none⟩) nq cq, .int .i64 1] := ⟨_, rfl⟩
 refine tsk (o := _) rfl ⟨rfl, rfl⟩ (run_seg hW3 (fr_ev k2_5) (fr_ev k2_10) br2_3 rfl rfl rfl rfl) ?_
 obtain ⟨fB3, nb3, ot3, z3⟩ := sgf hW3 fB2 br2_3 (by omega)
 clear hW3
 have b3_0 := ot3 _ _ (by omega) b2_0
 have b3_1 := ot3 _ _ (by omega) b2_1
 have b3_2 := ot3 _ _ (by omega) b2_2
 refine wpe ?_
 refine hK2 _ _ ?_
 refine wp_seq_k fun K3 hK3 => ?_
 refine rw_ 4 [(11, 0), (12, 1), (13, 2), (14, 3)] [[], [0], [1], []] (rel [is (.pointer (some ⟨(s1 1), 1, none⟩)), is (.slice (some ⟨tf, uf, none⟩) 2 cf), iI 2, iI 0])
  ⟨fun f s W c d h j k a => opv rfl rfl (by simp [go_sem, a.e 3 k2_3]) rfl,
  fun f s W c d h j k a => opv rfl rfl (by simp [go_sem, a.e 11 (d 0 rfl), cb b3_1 c 1]) rfl,
  fun f s W c d h j k a => opv rfl rfl (by simp [go_sem, a.e 12 (d 1 rfl)]) rfl,
  fun f s W c d h j k a => opz, trivial⟩ ?_
 intro f4 s4 W4 hB4 g4 hg4 z4
 have k4_13 := kt hg4 13 (hB4.is 2)
 have k4_14 := kt hg4 14 (hB4.is 3)
 refine wp_block ?_
 refine wp_loop_rounds 3 ?_
 rw [rounds_succ]
 refine rw_ 1 [(15, 0)] [[]] (rel [iB true])
  ⟨fun f s W c d h j k a => opv rfl rfl (by simp [go_sem, a.e 14 k4_14, a.e 13 k4_13]) rfl, trivial⟩ ?_
 intro f5 s5 W5 hB5 g5 hg5 z5
 have fB5 := hB5.f (hB4.f fB3)
 have k5_12 := kt hg5 12 (kt hg4 12 (hB4.is 1))
 have k5_14 := kt hg5 14 k4_14
 have k5_15 := kt hg5 15 (hB5.is 0)
 refine wp_seq_k fun K6 hK6 => ?_
 refine wp_cond_true ((fr_eval rfl).trans k5_15) ?_
 refine wp_skip ?_
 refine hK6 _ _ ?_
 refine wp_seq_k fun K8 hK8 => ?_
 refine wp_block ?_
 refine rw_ 3 [(16, 0), (17, 1), (7, 2)] [[], [0], [1]] (rel [is (.pointer (some ⟨tf, uf, none⟩)), iI ((fa0 : Int)), iI ((fa0 : Int))])
  ⟨fun f s W c d h j k a => opv rfl rfl (by simp [go_sem, a.e 12 k5_12, a.e 14 k5_14]) rfl,
  fun f s W c d h j k a => by have l := bwt fB5 c; have cu : W.cell? ⟨tf, uf, none⟩ = some (.int .i64 (fa0 : Int)) := ii_cell (hF.below l (Nat.le_refl _)) 0 (by simp); exact opv rfl rfl (by simp [go_sem, a.e 16 (d 0 rfl), cu]) rfl,
  fun f s W c d h j k a => opm (a.v 17 (d 1 rfl)), trivial⟩ ?_
 intro f6 s6 W6 hB6 g6 hg6 z6
 have fB6 := hB6.f fB5
 have b6_0 := hB6.b (hB5.b (hB4.b b3_0))
 have b6_3 := hB6.b (hB5.b (hB4.b nb3))
 have k6_2 := kt hg6 2 (kt hg5 2 (kt hg4 2 (kt hg2 2 k1_2)))
 have k6_5 := kt hg6 5 (kt hg5 5 (kt hg4 5 k2_5))
 have k6_7 := kt hg6 7 (hB6.is 2)
 refine ry 10 [(18, 0), (19, 1), (20, 2), (21, 3), (22, 4), (23, 5), (24, 6), (25, 7), (26, 8), (27, 9)] [[], [0], [], [2], [], [3, 4], [5], [6], [1, 7], [], [0, 1, 2, 3, 4, 5, 6, 7, 8, 9]] (rel [is (.pointer (some ⟨(s2 3), 4, none⟩)), iI 1, is (.pointer (some ⟨(s1 0), 1, none⟩)), is (.slice (some ⟨bq, oq, none⟩) nq cq), iI ((fa0 : Int)), is (.pointer (some ⟨bq, oq + fa0 * 4, none⟩)), is (.pointer (some ⟨bq, oq + fa0 * 4, none⟩)), iI FA0.pitch, iI FA0.pitch, is (.pointer (some ⟨(s2 3), 4, none⟩))])
  ⟨fun f s W c d h j k a => opv rfl rfl (by simp [go_sem, a.e 5 k6_5]) rfl,
  fun f s W c d h j k a => opv rfl rfl (by simp [go_sem, a.e 18 (d 0 rfl), cb b6_3 c 4]) rfl,
  fun f s W c d h j k a => opv rfl rfl (by simp [go_sem, a.e 2 k6_2]) rfl,
  fun f s W c d h j k a => opv rfl rfl (by simp [go_sem, a.e 20 (d 2 rfl), cb b6_0 c 1]) rfl,
  fun f s W c d h j k a => opm (a.v 7 k6_7),
  fun f s W c d h j k a => by have li_ := Nat.not_le.2 hfa0; have lz_ : (fa0 : Int) < (nq : Int) := (by omega); exact opv rfl rfl (by simp [go_sem, a.e 21 (d 3 rfl), a.e 22 (d 4 rfl), li_, hfa0, lz_]) rfl,
  fun f s W c d h j k a => opv rfl rfl (by simp [go_sem, a.e 23 (d 5 rfl)]) rfl,
  fun f s W c d h j k a => by have l := bwt fB6 c; have E_ := (hQ.below l).2 fa0 hfa0; rw [efa0] at E_; obtain ⟨u0_, u1_, u2_, u3_⟩ := E_; have v0_ : W.cell? ⟨bq, oq + fa0 * 4, none⟩ = some (.int .i64 FA0.pitch) := u0_; exact opv rfl rfl (by simp [go_sem, a.e 24 (d 6 rfl), v0_]) rfl,
  fun f s W c d h j k a => opv rfl rfl (by simp [go_sem, a.e 19 (d 1 rfl), a.e 25 (d 7 rfl), IntWalk.i64_in (FA0.pitch) (by omega)]) rfl,
  fun f s W c d h j k a => opv rfl rfl (by simp [go_sem, a.e 5 k6_5]) rfl, trivial⟩ ?_
 intro f7 s7 W7 hB7 g7 hg7 z7
 have fB7 := hB7.f fB6
 have b7_0 := hB7.b b6_0
 have b7_2 := hB7.b (hB6.b (hB5.b (hB4.b b3_2)))
 have b7_3 := hB7.b b6_3
 have k7_14 := kt hg7 14 (kt hg6 14 k5_14)
 have k7_26 := kt hg7 26 (hB7.is 8)
 have k7_27 := kt hg7 27 (hB7.is 9)
 obtain ⟨W8, hW8⟩ : ∃ W', W' = W7.setRow (s2 3) #[.slice (some ⟨tx, ux, none⟩) 5 cx, .slice (some ⟨tf, uf, none⟩) 2 cf, .slice (some ⟨bp, oP, none⟩) np cp, .slice (some ⟨bq, oq, none⟩) nq cq, .int .i64 FA0.pitch] := ⟨_, rfl⟩
 refine tsk (o := _) rfl ⟨rfl, rfl⟩ (run_seg hW8 (fr_ev k7_27) (fr_ev k7_26) b7_3 rfl rfl rfl rfl) ?_
 obtain ⟨fB8, nb8, ot8, z8⟩ := sgf hW8 fB7 b7_3 (by omega)
 clear hW8
 have b8_0 := ot8 _ _ (by omega) b7_0
 have b8_2 := ot8 _ _ (by omega) b7_2
 refine wpe ?_
 refine ibn ?_
 refine hK8 _ _ ?_
 refine ry 2 [(28, 0), (14, 1)] [[], [0]] (rel [iI 1, iI 1])
  ⟨fun f s W c d h j k a => opv rfl rfl (by simp [go_sem, a.e 14 ((j 1 14 rfl rfl).trans k7_14), IntWalk.i64_in (1) (by omega)]) rfl,
  fun f s W c d h j k a => opm (a.v 28 (d 0 rfl)), trivial⟩ ?_
 intro f9 s9 W9 hB9 g9 hg9 z9
 refine wpe ?_
 have k9_13 := kt hg9 13 (kt hg7 13 (kt hg6 13 (kt hg5 13 k4_13)))
 have k9_14 := kt hg9 14 (hB9.is 1)
 refine then_normal ?_
 rw [rounds_succ]
 refine rw_ 1 [(15, 0)] [[]] (rel [iB true])
  ⟨fun f s W c d h j k a => opv rfl rfl (by simp [go_sem, a.e 14 k9_14, a.e 13 k9_13]) rfl, trivial⟩ ?_
 intro f10 s10 W10 hB10 g10 hg10 z10
 have fB10 := hB10.f (hB9.f fB8)
 have k10_12 := kt hg10 12 (kt hg9 12 (kt hg7 12 (kt hg6 12 k5_12)))
 have k10_14 := kt hg10 14 k9_14
 have k10_15 := kt hg10 15 (hB10.is 0)
 refine wp_seq_k fun K11 hK11 => ?_
 refine wp_cond_true ((fr_eval rfl).trans k10_15) ?_
 refine wp_skip ?_
 refine hK11 _ _ ?_
 refine wp_seq_k fun K13 hK13 => ?_
 refine wp_block ?_
 refine rw_ 3 [(16, 0), (17, 1), (7, 2)] [[], [0], [1]] (rel [is (.pointer (some ⟨tf, uf + 1, none⟩)), iI ((fa1 : Int)), iI ((fa1 : Int))])
  ⟨fun f s W c d h j k a => opv rfl rfl (by simp [go_sem, a.e 12 k10_12, a.e 14 k10_14]) rfl,
  fun f s W c d h j k a => by have l := bwt fB10 c; have cu : W.cell? ⟨tf, uf + 1, none⟩ = some (.int .i64 (fa1 : Int)) := ii_cell (hF.below l (Nat.le_refl _)) 1 (by simp); exact opv rfl rfl (by simp [go_sem, a.e 16 (d 0 rfl), cu]) rfl,
  fun f s W c d h j k a => opm (a.v 17 (d 1 rfl)), trivial⟩ ?_
 intro f11 s11 W11 hB11 g11 hg11 z11
 have fB11 := hB11.f fB10
 have b11_0 := hB11.b (hB10.b (hB9.b b8_0))
 have b11_3 := hB11.b (hB10.b (hB9.b nb8))
 have k11_2 := kt hg11 2 (kt hg10 2 (kt hg9 2 (kt hg7 2 k6_2)))
 have k11_5 := kt hg11 5 (kt hg10 5 (kt hg9 5 (kt hg7 5 k6_5)))
 have k11_7 := kt hg11 7 (hB11.is 2)
 refine ry 10 [(18, 0), (19, 1), (20, 2), (21, 3), (22, 4), (23, 5), (24, 6), (25, 7), (26, 8), (27, 9)] [[], [0], [], [2], [], [3, 4], [5], [6], [1, 7], [], [0, 1, 2, 3, 4, 5, 6, 7, 8, 9]] (rel [is (.pointer (some ⟨(s2 3), 4, none⟩)), iI FA0.pitch, is (.pointer (some ⟨(s1 0), 1, none⟩)), is (.slice (some ⟨bq, oq, none⟩) nq cq), iI ((fa1 : Int)), is (.pointer (some ⟨bq, oq + fa1 * 4, none⟩)), is (.pointer (some ⟨bq, oq + fa1 * 4, none⟩)), iI FA1.pitch, iI (FA0.pitch * FA1.pitch), is (.pointer (some ⟨(s2 3), 4, none⟩))])
  ⟨fun f s W c d h j k a => opv rfl rfl (by simp [go_sem, a.e 5 k11_5]) rfl,
  fun f s W c d h j k a => opv rfl rfl (by simp [go_sem, a.e 18 (d 0 rfl), cb b11_3 c 4]) rfl,
  fun f s W c d h j k a => opv rfl rfl (by simp [go_sem, a.e 2 k11_2]) rfl,
  fun f s W c d h j k a => opv rfl rfl (by simp [go_sem, a.e 20 (d 2 rfl), cb b11_0 c 1]) rfl,
  fun f s W c d h j k a => opm (a.v 7 k11_7),
  fun f s W c d h j k a => by have li_ := Nat.not_le.2 hfa1; have lz_ : (fa1 : Int) < (nq : Int) := (by omega); exact opv rfl rfl (by simp [go_sem, a.e 21 (d 3 rfl), a.e 22 (d 4 rfl), li_, hfa1, lz_]) rfl,
  fun f s W c d h j k a => opv rfl rfl (by simp [go_sem, a.e 23 (d 5 rfl)]) rfl,
  fun f s W c d h j k a => by have l := bwt fB11 c; have E_ := (hQ.below l).2 fa1 hfa1; rw [efa1] at E_; obtain ⟨u0_, u1_, u2_, u3_⟩ := E_; have v0_ : W.cell? ⟨bq, oq + fa1 * 4, none⟩ = some (.int .i64 FA1.pitch) := u0_; exact opv rfl rfl (by simp [go_sem, a.e 24 (d 6 rfl), v0_]) rfl,
  fun f s W c d h j k a => opv rfl rfl (by simp [go_sem, a.e 19 (d 1 rfl), a.e 25 (d 7 rfl), IntWalk.i64_in (FA0.pitch * FA1.pitch) (by omega)]) rfl,
  fun f s W c d h j k a => opv rfl rfl (by simp [go_sem, a.e 5 k11_5]) rfl, trivial⟩ ?_
 intro f12 s12 W12 hB12 g12 hg12 z12
 have fB12 := hB12.f fB11
 have b12_2 := hB12.b (hB11.b (hB10.b (hB9.b b8_2)))
 have b12_3 := hB12.b b11_3
 have k12_14 := kt hg12 14 (kt hg11 14 k10_14)
 have k12_26 := kt hg12 26 (hB12.is 8)
 have k12_27 := kt hg12 27 (hB12.is 9)
 obtain ⟨W13, hW13⟩ : ∃ W', W' = W12.setRow (s2 3) #[.slice (some ⟨tx, ux, none⟩) 5 cx, .slice (some ⟨tf, uf, none⟩) 2 cf, .slice (some ⟨bp, oP, none⟩) np cp, .slice (some ⟨bq, oq, none⟩) nq cq, .int .i64 (FA0.pitch * FA1.pitch)] := ⟨_, rfl⟩
 refine tsk (o := _) rfl ⟨rfl, rfl⟩ (run_seg hW13 (fr_ev k12_27) (fr_ev k12_26) b12_3 rfl rfl rfl rfl) ?_
 obtain ⟨fB13, nb13, ot13, z13⟩ := sgf hW13 fB12 b12_3 (by omega)
 clear hW13
 have b13_2 := ot13 _ _ (by omega) b12_2
 refine wpe ?_
 refine ibn ?_
 refine hK13 _ _ ?_
 refine ry 2 [(28, 0), (14, 1)] [[], [0]] (rel [iI 2, iI 2])
  ⟨fun f s W c d h j k a => opv rfl rfl (by simp [go_sem, a.e 14 ((j 1 14 rfl rfl).trans k12_14), IntWalk.i64_in (2) (by omega)]) rfl,
  fun f s W c d h j k a => opm (a.v 28 (d 0 rfl)), trivial⟩ ?_
 intro f14 s14 W14 hB14 g14 hg14 z14
 refine wpe ?_
 have k14_13 := kt hg14 13 (kt hg12 13 (kt hg11 13 (kt hg10 13 k9_13)))
 have k14_14 := kt hg14 14 (hB14.is 1)
 refine then_normal ?_
 rw [rounds_succ]
 refine rw_ 1 [(15, 0)] [[]] (rel [iB false])
  ⟨fun f s W c d h j k a => opv rfl rfl (by simp [go_sem, a.e 14 k14_14, a.e 13 k14_13]) rfl, trivial⟩ ?_
 intro f15 s15 W15 hB15 g15 hg15 z15
 have b15_3 := hB15.b (hB14.b nb13)
 have k15_5 := kt hg15 5 (kt hg14 5 (kt hg12 5 k11_5))
 have k15_15 := kt hg15 15 (hB15.is 0)
 refine wp_seq_k fun K16 hK16 => ?_
 refine wp_cond_false ((fr_eval rfl).trans k15_15) ?_
 refine wp_exit ?_
 refine then_exit ?_
 refine then_exit ?_
 refine inBlock_at ?_
 refine hK3 _ _ ?_
 refine wp_seq_k fun K18 hK18 => ?_
 refine ry 1 [(29, 0)] [[], [0]] (rel [is (.agg #[.slice (some ⟨tx, ux, none⟩) 5 cx, .slice (some ⟨tf, uf, none⟩) 2 cf, .slice (some ⟨bp, oP, none⟩) np cp, .slice (some ⟨bq, oq, none⟩) nq cq, .int .i64 (FA0.pitch * FA1.pitch)])])
  ⟨fun f s W c d h j k a => opv rfl rfl (by simp [go_sem, a.e 5 k15_5, cb b15_3 c 0, cb b15_3 c 1, cb b15_3 c 2, cb b15_3 c 3, cb b15_3 c 4]) rfl, trivial⟩ ?_
 intro f16 s16 W16 hB16 g16 hg16 z16
 have fB16 := hB16.f (hB15.f (hB14.f fB13))
 have b16_2 := hB16.b (hB15.b (hB14.b b13_2))
 have k16_4 := kt hg16 4 (kt hg15 4 (kt hg14 4 (kt hg12 4 (kt hg11 4 (kt hg10 4 (kt hg9 4 (kt hg7 4 (kt hg6 4 (kt hg5 4 (kt hg4 4 (kt hg2 4 (kt hg1 4 r1_2))))))))))))
 have k16_29 := kt hg16 29 (hB16.is 0)
 obtain ⟨W17, hW17⟩ : ∃ W', W' = W16.setRow (s1 2) #[.slice (some ⟨tx, ux, none⟩) 5 cx, .slice (some ⟨tf, uf, none⟩) 2 cf, .slice (some ⟨bp, oP, none⟩) np cp, .slice (some ⟨bq, oq, none⟩) nq cq, .int .i64 (FA0.pitch * FA1.pitch)] := ⟨_, rfl⟩
 refine tsk (o := _) rfl ⟨rfl, rfl⟩ (run_seg hW17 (fr_ev k16_4) (fr_ev k16_29) b16_2 rfl rfl rfl rfl) ?_
 obtain ⟨fB17, nb17, ot17, z17⟩ := sgf hW17 fB16 b16_2 (by omega)
 clear hW17
 refine wpe ?_
 refine hK18 _ _ ?_
 refine wp_ret ?_
 refine leave_gen (v := .agg #[.slice (some ⟨tx, ux, none⟩) 5 cx, .slice (some ⟨tf, uf, none⟩) 2 cf, .slice (some ⟨bp, oP, none⟩) np cp, .slice (some ⟨bq, oq, none⟩) nq cq, .int .i64 (FA0.pitch * FA1.pitch)]) (.inr rfl) (by simp [results, Try.results55, go_sem, frv 30 k16_4, cl nb17 0, cl nb17 1, cl nb17 2, cl nb17 3, cl nb17 4]) ?_
 exact ⟨by rw [← hwh], fB17⟩
theorem newSheet_2 (ps : Nat → Pa) (qs : Nat → Fu) (bp oP np cp bq oq nq cq : Nat) (tx ux cx tf uf cf pa0 pa1 pa2 pa3 pa4 fa0 fa1 : Nat) (PA0 PA1 PA2 PA3 PA4 : Pa) (FA0 FA1 : Fu) (wh : Int) (w : World) (hP : PaR w bp oP np ps) (hQ : FuR w bq oq nq qs) (hpi : ∀ i, i < np → PaIn (ps i)) (hqi : ∀ i, i < nq → FuIn (qs i)) (np1 : 1 ≤ np) (np8 : np ≤ 8) (nq1 : 1 ≤ nq) (nq4 : nq ≤ 4) (hX : Ii w (some ⟨tx, ux, none⟩) 5 cx [(pa0 : Int), (pa1 : Int), (pa2 : Int), (pa3 : Int), (pa4 : Int)]) (hF : Ii w (some ⟨tf, uf, none⟩) 2 cf [(fa0 : Int), (fa1 : Int)]) (hpa0 : pa0 < np) (epa0 : ps pa0 = PA0) (hpa1 : pa1 < np) (epa1 : ps pa1 = PA1) (hpa2 : pa2 < np) (epa2 : ps pa2 = PA2) (hpa3 : pa3 < np) (epa3 : ps pa3 = PA3) (hpa4 : pa4 < np) (epa4 : ps pa4 = PA4) (hfa0 : fa0 < nq) (efa0 : qs fa0 = FA0) (hfa1 : fa1 < nq) (efa1 : qs fa1 = FA1) (hk0 : PA0.kind = 1) (hk1 : PA1.kind = 2) (hk2 : PA2.kind = 1) (hk3 : PA3.kind = 2) (hk4 : PA4.kind = 1) (hwh : FA0.pitch * FA1.pitch = wh) (gwh : 0 ≤ wh ∧ wh ≤ 100000000) (gw1 : 0 ≤ FA0.pitch ∧ FA0.pitch ≤ 10000) :
  Calls Try.prog 33 #[.agg #[.slice (some ⟨bp, oP, none⟩) np cp, .slice (some ⟨bq, oq, none⟩) nq cq], .agg #[.slice (some ⟨tx, ux, none⟩) 5 cx, .slice (some ⟨tf, uf, none⟩) 2 cf]] w (fun e w' => e = .returned (.tuple #[.agg #[.slice (some ⟨tx, ux, none⟩) 5 cx, .slice (some ⟨tf, uf, none⟩) 2 cf, .slice (some ⟨bp, oP, none⟩) np cp, .slice (some ⟨bq, oq, none⟩) nq cq, .int .i64 wh], .int .i64 0]) ∧ Below w.heap.size w w') := by
 refine calls_fr Try.func33 Try.ntmps33 rfl rfl fun g hg => ?_
 have k0 : g 0 = .agg #[.slice (some ⟨bp, oP, none⟩) np cp, .slice (some ⟨bq, oq, none⟩) nq cq] := hg 0
 have k1 : g 1 = .agg #[.slice (some ⟨tx, ux, none⟩) 5 cx, .slice (some ⟨tf, uf, none⟩) 2 cf] := hg 1
 clear hg
 have fB0 : Below w.heap.size w w := Below.refl _ _
 refine rw_ 4 [(2, 0), (3, 1), (4, 2), (5, 3)] [[], [], [], []] (rel [bx 0 #[.slice (some ⟨bp, oP, none⟩) np cp, .slice (some ⟨bq, oq, none⟩) nq cq] 68, bx 1 #[.slice (some ⟨tx, ux, none⟩) 5 cx, .slice (some ⟨tf, uf, none⟩) 2 cf] 71, bx 2 #[.slice none 0 0, .slice none 0 0, .slice none 0 0, .slice none 0 0, .int .i64 0] 95, iI 0])
  ⟨fun f s W c d h j k a => opb rfl rfl (by simp [go_sem, a.e 0 k0]),
  fun f s W c d h j k a => opb rfl rfl (by simp [go_sem, a.e 1 k1]),
  fun f s W c d h j k a => opb rfl rfl (by simp [go_sem]),
  fun f s W c d h j k a => opz, trivial⟩ ?_
 intro f1 s1 W1 hB1 g1 hg1 z1
 have fB1 := hB1.f fB0
 obtain ⟨r1_0, br1_0⟩ := hB1.is 0
 have lr1_0 := hB1.lr 0 br1_0
 obtain ⟨r1_1, br1_1⟩ := hB1.is 1
 have lr1_1 := hB1.lr 1 br1_1
 obtain ⟨r1_2, br1_2⟩ := hB1.is 2
 have lr1_2 := hB1.lr 2 br1_2
 have ne1_0_1 := hB1.nb 0 1
 have ne1_0_2 := hB1.nb 0 2
 have ne1_1_2 := hB1.nb 1 2
 have k1_2 := kt hg1 2 r1_0
 have k1_3 := kt hg1 3 r1_1
 refine wp_seq_k fun K2 hK2 => ?_
 refine rw_ 4 [(7, 0), (8, 1), (9, 2), (6, 3)] [[], [], [0, 1], [2]] (rel [is (.agg #[.slice (some ⟨bp, oP, none⟩) np cp, .slice (some ⟨bq, oq, none⟩) nq cq]), is (.agg #[.slice (some ⟨tx, ux, none⟩) 5 cx, .slice (some ⟨tf, uf, none⟩) 2 cf]), iI 0, iI 0])
  ⟨fun f s W c d h j k a => opv rfl rfl (by simp [go_sem, a.e 2 k1_2, cb br1_0 c 0, cb br1_0 c 1]) rfl,
  fun f s W c d h j k a => opv rfl rfl (by simp [go_sem, a.e 3 k1_3, cb br1_1 c 0, cb br1_1 c 1]) rfl,
  fun f s W c d h j k a => by have l := bwt fB1 c; exact opc rfl rfl (by simp [go_sem, a.e 7 (d 0 rfl), a.e 8 (d 1 rfl)]) (made_2 ps qs bp oP np cp bq oq nq cq tx ux cx tf uf cf pa0 pa1 pa2 pa3 pa4 fa0 fa1 PA0 PA1 PA2 PA3 PA4 FA0 FA1 W (hP.below l) (hQ.below l) hpi hqi np1 np8 nq1 nq4 (hX.below l (Nat.le_refl _)) (hF.below l (Nat.le_refl _)) hpa0 epa0 hpa1 epa1 hpa2 epa2 hpa3 epa3 hpa4 epa4 hfa0 efa0 hfa1 efa1 hk0 hk1 hk2 hk3 hk4),
  fun f s W c d h j k a => opm (a.v 9 (d 2 rfl)), trivial⟩ ?_
 intro f2 s2 W2 hB2 g2 hg2 z2
 have k2_6 := kt hg2 6 (hB2.is 3)
 refine rw_ 2 [(10, 0), (11, 1)] [[], [0]] (rel [iI 0, iB false])
  ⟨fun f s W c d h j k a => opm (a.v 6 k2_6),
  fun f s W c d h j k a => opv rfl rfl (by simp [go_sem, a.e 10 (d 0 rfl)]) rfl, trivial⟩ ?_
 intro f3 s3 W3 hB3 g3 hg3 z3
 have fB3 := hB3.f (hB2.f fB1)
 have b3_0 := hB3.b (hB2.b br1_0)
 have b3_1 := hB3.b (hB2.b br1_1)
 have k3_2 := kt hg3 2 (kt hg2 2 k1_2)
 have k3_3 := kt hg3 3 (kt hg2 3 k1_3)
 have k3_11 := kt hg3 11 (hB3.is 1)
 refine wp_cond_false ((fr_eval rfl).trans k3_11) ?_
 refine wp_skip ?_
 refine hK2 _ _ ?_
 refine wp_seq_k fun K6 hK6 => ?_
 refine ry 3 [(14, 0), (15, 1), (16, 2), (5, 4)] [[], [], [0, 1], [0, 1, 2], [0, 1, 2, 3]] (rel [is (.agg #[.slice (some ⟨bp, oP, none⟩) np cp, .slice (some ⟨bq, oq, none⟩) nq cq]), is (.agg #[.slice (some ⟨tx, ux, none⟩) 5 cx, .slice (some ⟨tf, uf, none⟩) 2 cf]), is (.agg #[.slice (some ⟨tx, ux, none⟩) 5 cx, .slice (some ⟨tf, uf, none⟩) 2 cf, .slice (some ⟨bp, oP, none⟩) np cp, .slice (some ⟨bq, oq, none⟩) nq cq, .int .i64 wh])])
  ⟨fun f s W c d h j k a => opv rfl rfl (by simp [go_sem, a.e 2 k3_2, cb b3_0 c 0, cb b3_0 c 1]) rfl,
  fun f s W c d h j k a => opv rfl rfl (by simp [go_sem, a.e 3 k3_3, cb b3_1 c 0, cb b3_1 c 1]) rfl,
  fun f s W c d h j k a => by have l := bwt fB3 c; exact opc rfl rfl (by simp [go_sem, a.e 14 (d 0 rfl), a.e 15 (d 1 rfl)]) (sheetOf_2 ps qs bp oP np cp bq oq nq cq tx ux cx tf uf cf pa0 pa1 pa2 pa3 pa4 fa0 fa1 PA0 PA1 PA2 PA3 PA4 FA0 FA1 wh W (hP.below l) (hQ.below l) hpi hqi np1 np8 nq1 nq4 (hX.below l (Nat.le_refl _)) (hF.below l (Nat.le_refl _)) hpa0 epa0 hpa1 epa1 hpa2 epa2 hpa3 epa3 hpa4 epa4 hfa0 efa0 hfa1 efa1 hk0 hk1 hk2 hk3 hk4 hwh gwh gw1), trivial⟩ ?_
 intro f4 s4 W4 hB4 g4 hg4 z4
 have fB4 := hB4.f fB3
 have b4_2 := hB4.b (hB3.b (hB2.b br1_2))
 have k4_4 := kt hg4 4 (kt hg3 4 (kt hg2 4 (kt hg1 4 r1_2)))
 have k4_16 := kt hg4 16 (hB4.is 2)
 obtain ⟨W5, hW5⟩ : ∃ W', W' = W4.setRow (s1 2) #[.slice (some ⟨tx, ux, none⟩) 5 cx, .slice (some ⟨tf, uf, none⟩) 2 cf, .slice (some ⟨bp, oP, none⟩) np cp, .slice (some ⟨bq, oq, none⟩) nq cq, .int .i64 wh] := ⟨_, rfl⟩
 refine tsk (o := _) rfl ⟨rfl, rfl⟩ (run_seg hW5 (fr_ev k4_4) (fr_ev k4_16) b4_2 rfl rfl rfl rfl) ?_
 obtain ⟨fB5, nb5, ot5, z5⟩ := sgf hW5 fB4 b4_2 (by omega)
 clear hW5
 refine tail_value (o := _) rfl rfl rfl (v := .int .i64 0) (by simp [go_sem]) ?_
 generalize hg6 : upd g4 5 (.int .i64 0) = g6
 have k6_4 := ku hg6 4 k4_4
 have k6_5 := kt hg6 5 (upd_same _ _ _)
 refine wpe ?_
 refine hK6 _ _ ?_
 refine wp_ret ?_
 refine leave_gen (v := .tuple #[.agg #[.slice (some ⟨tx, ux, none⟩) 5 cx, .slice (some ⟨tf, uf, none⟩) 2 cf, .slice (some ⟨bp, oP, none⟩) np cp, .slice (some ⟨bq, oq, none⟩) nq cq, .int .i64 wh], .int .i64 0]) (.inr rfl) (by simp [results, Try.results33, go_sem, frv 17 k6_4, cl nb5 0, cl nb5 1, cl nb5 2, cl nb5 3, cl nb5 4, frv 17 k6_5]) ?_
 exact ⟨rfl, fB5⟩
theorem caliper_2_1 (ps : Nat → Pa) (qs : Nat → Fu) (bp oP np cp bq oq nq cq : Nat) (tx ux cx tf uf cf pa0 pa1 pa2 pa3 pa4 fa0 fa1 : Nat) (PA0 PA1 PA2 PA3 PA4 : Pa) (FA0 FA1 : Fu) (wh : Int) (w : World) (hP : PaR w bp oP np ps) (hQ : FuR w bq oq nq qs) (hpi : ∀ i, i < np → PaIn (ps i)) (hqi : ∀ i, i < nq → FuIn (qs i)) (np1 : 1 ≤ np) (np8 : np ≤ 8) (nq1 : 1 ≤ nq) (nq4 : nq ≤ 4) (hX : Ii w (some ⟨tx, ux, none⟩) 5 cx [(pa0 : Int), (pa1 : Int), (pa2 : Int), (pa3 : Int), (pa4 : Int)]) (hF : Ii w (some ⟨tf, uf, none⟩) 2 cf [(fa0 : Int), (fa1 : Int)]) (hpa0 : pa0 < np) (epa0 : ps pa0 = PA0) (hpa1 : pa1 < np) (epa1 : ps pa1 = PA1) (hpa2 : pa2 < np) (epa2 : ps pa2 = PA2) (hpa3 : pa3 < np) (epa3 : ps pa3 = PA3) (hpa4 : pa4 < np) (epa4 : ps pa4 = PA4) (hfa0 : fa0 < nq) (efa0 : qs fa0 = FA0) (hfa1 : fa1 < nq) (efa1 : qs fa1 = FA1) (hk0 : PA0.kind = 1) (hk1 : PA1.kind = 2) (hk2 : PA2.kind = 1) (hk3 : PA3.kind = 2) (hk4 : PA4.kind = 1) (hwh : FA0.pitch * FA1.pitch = wh) (gwh : 0 ≤ wh ∧ wh ≤ 100000000) (gw1 : 0 ≤ FA0.pitch ∧ FA0.pitch ≤ 10000) :
  Calls Try.prog 59 #[.agg #[.slice (some ⟨tx, ux, none⟩) 5 cx, .slice (some ⟨tf, uf, none⟩) 2 cf, .slice (some ⟨bp, oP, none⟩) np cp, .slice (some ⟨bq, oq, none⟩) nq cq, .int .i64 wh], .func (.func 56) #[] #[]] w (fun e w' => e = .returned (.int .i64 ((((PA0.t1 + PA2.t1) + PA4.t1) + FA0.h1) + FA1.h1)) ∧ Below w.heap.size w w') := by
 have gi0 := (epa0 ▸ hpi pa0 hpa0 : PaIn PA0).thick
 have gi1 := (epa1 ▸ hpi pa1 hpa1 : PaIn PA1).thick
 have gi2 := (epa2 ▸ hpi pa2 hpa2 : PaIn PA2).thick
 have gi3 := (epa3 ▸ hpi pa3 hpa3 : PaIn PA3).thick
 have gi4 := (epa4 ▸ hpi pa4 hpa4 : PaIn PA4).thick
 have gj0 := (efa0 ▸ hqi fa0 hfa0 : FuIn FA0).high
 have gj1 := (efa1 ▸ hqi fa1 hfa1 : FuIn FA1).high
 refine calls_fr Try.func59 Try.ntmps59 rfl rfl fun g hg => ?_
 have k0 : g 0 = .agg #[.slice (some ⟨tx, ux, none⟩) 5 cx, .slice (some ⟨tf, uf, none⟩) 2 cf, .slice (some ⟨bp, oP, none⟩) np cp, .slice (some ⟨bq, oq, none⟩) nq cq, .int .i64 wh] := hg 0
 have k1 : g 1 = .func (.func 56) #[] #[] := hg 1
 clear hg
 have fB0 : Below w.heap.size w w := Below.refl _ _
 refine rw_ 2 [(2, 0), (4, 1)] [[], []] (rel [bx 0 #[.slice (some ⟨tx, ux, none⟩) 5 cx, .slice (some ⟨tf, uf, none⟩) 2 cf, .slice (some ⟨bp, oP, none⟩) np cp, .slice (some ⟨bq, oq, none⟩) nq cq, .int .i64 wh] 95, iI 0])
  ⟨fun f s W c d h j k a => opb rfl rfl (by simp [go_sem, a.e 0 k0]),
  fun f s W c d h j k a => opz, trivial⟩ ?_
 intro f1 s1 W1 hB1 g1 hg1 z1
 obtain ⟨r1_0, br1_0⟩ := hB1.is 0
 have lr1_0 := hB1.lr 0 br1_0
 have k1_2 := kt hg1 2 r1_0
 refine wp_seq_k fun K2 hK2 => ?_
 refine rw_ 5 [(9, 0), (10, 1), (11, 2), (12, 3), (13, 4)] [[], [0], [1], [2], []] (rel [is (.pointer (some ⟨(s1 0), 0, none⟩)), is (.pointer (some ⟨(s1 0), 0, none⟩)), is (.slice (some ⟨tx, ux, none⟩) 5 cx), iI 5, iI 0])
  ⟨fun f s W c d h j k a => opv rfl rfl (by simp [go_sem, a.e 2 k1_2]) rfl,
  fun f s W c d h j k a => opv rfl rfl (by simp [go_sem, a.e 9 (d 0 rfl)]) rfl,
  fun f s W c d h j k a => opv rfl rfl (by simp [go_sem, a.e 10 (d 1 rfl), cb br1_0 c 0]) rfl,
  fun f s W c d h j k a => opv rfl rfl (by simp [go_sem, a.e 11 (d 2 rfl)]) rfl,
  fun f s W c d h j k a => opz, trivial⟩ ?_
 intro f2 s2 W2 hB2 g2 hg2 z2
 have k2_12 := kt hg2 12 (hB2.is 3)
 have k2_13 := kt hg2 13 (hB2.is 4)
 refine wp_block ?_
 refine wp_loop_rounds 6 ?_
 rw [rounds_succ]
 refine rw_ 1 [(14, 0)] [[]] (rel [iB true])
  ⟨fun f s W c d h j k a => opv rfl rfl (by simp [go_sem, a.e 13 k2_13, a.e 12 k2_12]) rfl, trivial⟩ ?_
 intro f3 s3 W3 hB3 g3 hg3 z3
 have fB3 := hB3.f (hB2.f (hB1.f fB0))
 have k3_11 := kt hg3 11 (kt hg2 11 (hB2.is 2))
 have k3_13 := kt hg3 13 k2_13
 have k3_14 := kt hg3 14 (hB3.is 0)
 refine wp_seq_k fun K5 hK5 => ?_
 refine wp_cond_true ((fr_eval rfl).trans k3_14) ?_
 refine wp_skip ?_
 refine hK5 _ _ ?_
 refine wp_seq_k fun K7 hK7 => ?_
 refine wp_block ?_
 refine rw_ 5 [(15, 0), (16, 1), (17, 2), (5, 3), (6, 4)] [[], [], [1], [0], [2]] (rel [iI 0, is (.pointer (some ⟨tx, ux, none⟩)), iI ((pa0 : Int)), iI 0, iI ((pa0 : Int))])
  ⟨fun f s W c d h j k a => opm (a.v 13 k3_13),
  fun f s W c d h j k a => opv rfl rfl (by simp [go_sem, a.e 11 k3_11, a.e 13 k3_13]) rfl,
  fun f s W c d h j k a => by have l := bwt fB3 c; have cu : W.cell? ⟨tx, ux, none⟩ = some (.int .i64 (pa0 : Int)) := ii_cell (hX.below l (Nat.le_refl _)) 0 (by simp); exact opv rfl rfl (by simp [go_sem, a.e 16 (d 1 rfl), cu]) rfl,
  fun f s W c d h j k a => opm (a.v 15 (d 0 rfl)),
  fun f s W c d h j k a => opm (a.v 17 (d 2 rfl)), trivial⟩ ?_
 intro f4 s4 W4 hB4 g4 hg4 z4
 have k4_5 := kt hg4 5 (hB4.is 3)
 refine rw_ 3 [(18, 0), (19, 1), (20, 2)] [[], [0], [1]] (rel [iI 0, iI 0, iB true])
  ⟨fun f s W c d h j k a => opm (a.v 5 k4_5),
  fun f s W c d h j k a => by have qw_ := IntWalk.i64_in (0) (by decide); exact opv rfl rfl (by simp [go_sem, a.e 18 (d 0 rfl), qw_]) rfl,
  fun f s W c d h j k a => opv rfl rfl (by simp [go_sem, a.e 19 (d 1 rfl)]) rfl, trivial⟩ ?_
 intro f5 s5 W5 hB5 g5 hg5 z5
 have fB5 := hB5.f (hB4.f fB3)
 have b5_0 := hB5.b (hB4.b (hB3.b (hB2.b br1_0)))
 have k5_1 := kt hg5 1 (kt hg4 1 (kt hg3 1 (kt hg2 1 (kt hg1 1 k1))))
 have k5_2 := kt hg5 2 (kt hg4 2 (kt hg3 2 (kt hg2 2 k1_2)))
 have k5_4 := kt hg5 4 (kt hg4 4 (kt hg3 4 (kt hg2 4 (kt hg1 4 (hB1.is 1)))))
 have k5_6 := kt hg5 6 (kt hg4 6 (hB4.is 4))
 have k5_20 := kt hg5 20 (hB5.is 2)
 refine wp_cond_true ((fr_eval rfl).trans k5_20) ?_
 refine ry 12 [(21, 0), (22, 1), (23, 2), (24, 3), (25, 4), (26, 5), (27, 6), (28, 7), (29, 8), (30, 9), (31, 10), (4, 11)] [[], [], [], [2], [3], [], [4, 5], [6], [7], [1, 8], [0, 9], [0, 10]] (rel [iI 0, is (.func (.func 56) #[] #[]), is (.pointer (some ⟨(s1 0), 2, none⟩)), is (.pointer (some ⟨(s1 0), 2, none⟩)), is (.slice (some ⟨bp, oP, none⟩) np cp), iI ((pa0 : Int)), is (.pointer (some ⟨bp, oP + pa0 * 8, none⟩)), is (.pointer (some ⟨bp, oP + pa0 * 8 + 2, none⟩)), is (.agg #[.int .i64 PA0.t1, .int .i64 PA0.t2]), iI PA0.t1, iI PA0.t1, iI PA0.t1])
  ⟨fun f s W c d h j k a => opm (a.v 4 ((j 11 4 rfl rfl).trans k5_4)),
  fun f s W c d h j k a => opm (a.v 1 k5_1),
  fun f s W c d h j k a => opv rfl rfl (by simp [go_sem, a.e 2 k5_2]) rfl,
  fun f s W c d h j k a => opv rfl rfl (by simp [go_sem, a.e 23 (d 2 rfl)]) rfl,
  fun f s W c d h j k a => opv rfl rfl (by simp [go_sem, a.e 24 (d 3 rfl), cb b5_0 c 2]) rfl,
  fun f s W c d h j k a => opm (a.v 6 k5_6),
  fun f s W c d h j k a => by have li_ := Nat.not_le.2 hpa0; have lz_ : (pa0 : Int) < (np : Int) := (by omega); exact opv rfl rfl (by simp [go_sem, a.e 25 (d 4 rfl), a.e 26 (d 5 rfl), li_, hpa0, lz_]) rfl,
  fun f s W c d h j k a => opv rfl rfl (by simp [go_sem, a.e 27 (d 6 rfl)]) rfl,
  fun f s W c d h j k a => by have l := bwt fB5 c; have E_ := (hP.below l).2 pa0 hpa0; rw [epa0] at E_; obtain ⟨u0_, u1_, u2_, u3_, u4_, u5_, u6_, u7_⟩ := E_; have v0_ : W.cell? ⟨bp, oP + pa0 * 8 + 2, none⟩ = some (.int .i64 PA0.t1) := u2_; have v1_ : W.cell? ⟨bp, oP + pa0 * 8 + 2 + 1, none⟩ = some (.int .i64 PA0.t2) := u3_; exact opv rfl rfl (by simp [go_sem, a.e 28 (d 7 rfl), v0_, v1_]) rfl,
  fun f s W c d h j k a => opc rfl rfl (by simp [go_sem, a.e 29 (d 8 rfl), a.e 22 (d 1 rfl)]) (low_ok (PA0.t1) (PA0.t2) W),
  fun f s W c d h j k a => opv rfl rfl (by simp [go_sem, a.e 21 (d 0 rfl), a.e 30 (d 9 rfl), IntWalk.i64_in (PA0.t1) (by omega)]) rfl,
  fun f s W c d h j k a => opm (a.v 31 (d 10 rfl)), trivial⟩ ?_
 intro f6 s6 W6 hB6 g6 hg6 z6
 refine wpe ?_
 have k6_13 := kt hg6 13 (kt hg5 13 (kt hg4 13 k3_13))
 refine ibn ?_
 refine hK7 _ _ ?_
 refine ry 2 [(32, 0), (13, 1)] [[], [0]] (rel [iI 1, iI 1])
  ⟨fun f s W c d h j k a => opv rfl rfl (by simp [go_sem, a.e 13 ((j 1 13 rfl rfl).trans k6_13), IntWalk.i64_in (1) (by omega)]) rfl,
  fun f s W c d h j k a => opm (a.v 32 (d 0 rfl)), trivial⟩ ?_
 intro f7 s7 W7 hB7 g7 hg7 z7
 refine wpe ?_
 have k7_12 := kt hg7 12 (kt hg6 12 (kt hg5 12 (kt hg4 12 (kt hg3 12 k2_12))))
 have k7_13 := kt hg7 13 (hB7.is 1)
 refine then_normal ?_
 rw [rounds_succ]
 refine rw_ 1 [(14, 0)] [[]] (rel [iB true])
  ⟨fun f s W c d h j k a => opv rfl rfl (by simp [go_sem, a.e 13 k7_13, a.e 12 k7_12]) rfl, trivial⟩ ?_
 intro f8 s8 W8 hB8 g8 hg8 z8
 have fB8 := hB8.f (hB7.f (hB6.f fB5))
 have k8_11 := kt hg8 11 (kt hg7 11 (kt hg6 11 (kt hg5 11 (kt hg4 11 k3_11))))
 have k8_13 := kt hg8 13 k7_13
 have k8_14 := kt hg8 14 (hB8.is 0)
 refine wp_seq_k fun K12 hK12 => ?_
 refine wp_cond_true ((fr_eval rfl).trans k8_14) ?_
 refine wp_skip ?_
 refine hK12 _ _ ?_
 refine wp_seq_k fun K14 hK14 => ?_
 refine wp_block ?_
 refine rw_ 5 [(15, 0), (16, 1), (17, 2), (5, 3), (6, 4)] [[], [], [1], [0], [2]] (rel [iI 1, is (.pointer (some ⟨tx, ux + 1, none⟩)), iI ((pa1 : Int)), iI 1, iI ((pa1 : Int))])
  ⟨fun f s W c d h j k a => opm (a.v 13 k8_13),
  fun f s W c d h j k a => opv rfl rfl (by simp [go_sem, a.e 11 k8_11, a.e 13 k8_13]) rfl,
  fun f s W c d h j k a => by have l := bwt fB8 c; have cu : W.cell? ⟨tx, ux + 1, none⟩ = some (.int .i64 (pa1 : Int)) := ii_cell (hX.below l (Nat.le_refl _)) 1 (by simp); exact opv rfl rfl (by simp [go_sem, a.e 16 (d 1 rfl), cu]) rfl,
  fun f s W c d h j k a => opm (a.v 15 (d 0 rfl)),
  fun f s W c d h j k a => opm (a.v 17 (d 2 rfl)), trivial⟩ ?_
 intro f9 s9 W9 hB9 g9 hg9 z9
 have k9_5 := kt hg9 5 (hB9.is 3)
 refine rw_ 3 [(18, 0), (19, 1), (20, 2)] [[], [0], [1]] (rel [iI 1, iI 1, iB false])
  ⟨fun f s W c d h j k a => opm (a.v 5 k9_5),
  fun f s W c d h j k a => by have qw_ := IntWalk.i64_in (1) (by decide); exact opv rfl rfl (by simp [go_sem, a.e 18 (d 0 rfl), qw_]) rfl,
  fun f s W c d h j k a => opv rfl rfl (by simp [go_sem, a.e 19 (d 1 rfl)]) rfl, trivial⟩ ?_
 intro f10 s10 W10 hB10 g10 hg10 z10
 have k10_13 := kt hg10 13 (kt hg9 13 k8_13)
 have k10_20 := kt hg10 20 (hB10.is 2)
 refine wp_cond_false ((fr_eval rfl).trans k10_20) ?_
 refine wp_skip ?_
 refine ibn ?_
 refine hK14 _ _ ?_
 refine ry 2 [(32, 0), (13, 1)] [[], [0]] (rel [iI 2, iI 2])
  ⟨fun f s W c d h j k a => opv rfl rfl (by simp [go_sem, a.e 13 ((j 1 13 rfl rfl).trans k10_13), IntWalk.i64_in (2) (by omega)]) rfl,
  fun f s W c d h j k a => opm (a.v 32 (d 0 rfl)), trivial⟩ ?_
 intro f11 s11 W11 hB11 g11 hg11 z11
 refine wpe ?_
 have k11_12 := kt hg11 12 (kt hg10 12 (kt hg9 12 (kt hg8 12 k7_12)))
 have k11_13 := kt hg11 13 (hB11.is 1)
 refine then_normal ?_
 rw [rounds_succ]
 refine rw_ 1 [(14, 0)] [[]] (rel [iB true])
  ⟨fun f s W c d h j k a => opv rfl rfl (by simp [go_sem, a.e 13 k11_13, a.e 12 k11_12]) rfl, trivial⟩ ?_
 intro f12 s12 W12 hB12 g12 hg12 z12
 have fB12 := hB12.f (hB11.f (hB10.f (hB9.f fB8)))
 have k12_11 := kt hg12 11 (kt hg11 11 (kt hg10 11 (kt hg9 11 k8_11)))
 have k12_13 := kt hg12 13 k11_13
 have k12_14 := kt hg12 14 (hB12.is 0)
 refine wp_seq_k fun K19 hK19 => ?_
 refine wp_cond_true ((fr_eval rfl).trans k12_14) ?_
 refine wp_skip ?_
 refine hK19 _ _ ?_
 refine wp_seq_k fun K21 hK21 => ?_
 refine wp_block ?_
 refine rw_ 5 [(15, 0), (16, 1), (17, 2), (5, 3), (6, 4)] [[], [], [1], [0], [2]] (rel [iI 2, is (.pointer (some ⟨tx, ux + 2, none⟩)), iI ((pa2 : Int)), iI 2, iI ((pa2 : Int))])
  ⟨fun f s W c d h j k a => opm (a.v 13 k12_13),
  fun f s W c d h j k a => opv rfl rfl (by simp [go_sem, a.e 11 k12_11, a.e 13 k12_13]) rfl,
  fun f s W c d h j k a => by have l := bwt fB12 c; have cu : W.cell? ⟨tx, ux + 2, none⟩ = some (.int .i64 (pa2 : Int)) := ii_cell (hX.below l (Nat.le_refl _)) 2 (by simp); exact opv rfl rfl (by simp [go_sem, a.e 16 (d 1 rfl), cu]) rfl,
  fun f s W c d h j k a => opm (a.v 15 (d 0 rfl)),
  fun f s W c d h j k a => opm (a.v 17 (d 2 rfl)), trivial⟩ ?_
 intro f13 s13 W13 hB13 g13 hg13 z13
 have k13_5 := kt hg13 5 (hB13.is 3)
 refine rw_ 3 [(18, 0), (19, 1), (20, 2)] [[], [0], [1]] (rel [iI 2, iI 0, iB true])
  ⟨fun f s W c d h j k a => opm (a.v 5 k13_5),
  fun f s W c d h j k a => by have qw_ := IntWalk.i64_in (0) (by decide); exact opv rfl rfl (by simp [go_sem, a.e 18 (d 0 rfl), qw_]) rfl,
  fun f s W c d h j k a => opv rfl rfl (by simp [go_sem, a.e 19 (d 1 rfl)]) rfl, trivial⟩ ?_
 intro f14 s14 W14 hB14 g14 hg14 z14
 have fB14 := hB14.f (hB13.f fB12)
 have b14_0 := hB14.b (hB13.b (hB12.b (hB11.b (hB10.b (hB9.b (hB8.b (hB7.b (hB6.b b5_0))))))))
 have k14_1 := kt hg14 1 (kt hg13 1 (kt hg12 1 (kt hg11 1 (kt hg10 1 (kt hg9 1 (kt hg8 1 (kt hg7 1 (kt hg6 1 k5_1))))))))
 have k14_2 := kt hg14 2 (kt hg13 2 (kt hg12 2 (kt hg11 2 (kt hg10 2 (kt hg9 2 (kt hg8 2 (kt hg7 2 (kt hg6 2 k5_2))))))))
 have k14_4 := kt hg14 4 (kt hg13 4 (kt hg12 4 (kt hg11 4 (kt hg10 4 (kt hg9 4 (kt hg8 4 (kt hg7 4 (kt hg6 4 (hB6.is 11)))))))))
 have k14_6 := kt hg14 6 (kt hg13 6 (hB13.is 4))
 have k14_20 := kt hg14 20 (hB14.is 2)
 refine wp_cond_true ((fr_eval rfl).trans k14_20) ?_
 refine ry 12 [(21, 0), (22, 1), (23, 2), (24, 3), (25, 4), (26, 5), (27, 6), (28, 7), (29, 8), (30, 9), (31, 10), (4, 11)] [[], [], [], [2], [3], [], [4, 5], [6], [7], [1, 8], [0, 9], [0, 10]] (rel [iI PA0.t1, is (.func (.func 56) #[] #[]), is (.pointer (some ⟨(s1 0), 2, none⟩)), is (.pointer (some ⟨(s1 0), 2, none⟩)), is (.slice (some ⟨bp, oP, none⟩) np cp), iI ((pa2 : Int)), is (.pointer (some ⟨bp, oP + pa2 * 8, none⟩)), is (.pointer (some ⟨bp, oP + pa2 * 8 + 2, none⟩)), is (.agg #[.int .i64 PA2.t1, .int .i64 PA2.t2]), iI PA2.t1, iI (PA0.t1 + PA2.t1), iI (PA0.t1 + PA2.t1)])
  ⟨fun f s W c d h j k a => opm (a.v 4 ((j 11 4 rfl rfl).trans k14_4)),
  fun f s W c d h j k a => opm (a.v 1 k14_1),
  fun f s W c d h j k a => opv rfl rfl (by simp [go_sem, a.e 2 k14_2]) rfl,
  fun f s W c d h j k a => opv rfl rfl (by simp [go_sem, a.e 23 (d 2 rfl)]) rfl,
  fun f s W c d h j k a => opv rfl rfl (by simp [go_sem, a.e 24 (d 3 rfl), cb b14_0 c 2]) rfl,
  fun f s W c d h j k a => opm (a.v 6 k14_6),
  fun f s W c d h j k a => by have li_ := Nat.not_le.2 hpa2; have lz_ : (pa2 : Int) < (np : Int) := (by omega); exact opv rfl rfl (by simp [go_sem, a.e 25 (d 4 rfl), a.e 26 (d 5 rfl), li_, hpa2, lz_]) rfl,
  fun f s W c d h j k a => opv rfl rfl (by simp [go_sem, a.e 27 (d 6 rfl)]) rfl,
  fun f s W c d h j k a => by have l := bwt fB14 c; have E_ := (hP.below l).2 pa2 hpa2; rw [epa2] at E_; obtain ⟨u0_, u1_, u2_, u3_, u4_, u5_, u6_, u7_⟩ := E_; have v0_ : W.cell? ⟨bp, oP + pa2 * 8 + 2, none⟩ = some (.int .i64 PA2.t1) := u2_; have v1_ : W.cell? ⟨bp, oP + pa2 * 8 + 2 + 1, none⟩ = some (.int .i64 PA2.t2) := u3_; exact opv rfl rfl (by simp [go_sem, a.e 28 (d 7 rfl), v0_, v1_]) rfl,
  fun f s W c d h j k a => opc rfl rfl (by simp [go_sem, a.e 29 (d 8 rfl), a.e 22 (d 1 rfl)]) (low_ok (PA2.t1) (PA2.t2) W),
  fun f s W c d h j k a => opv rfl rfl (by simp [go_sem, a.e 21 (d 0 rfl), a.e 30 (d 9 rfl), IntWalk.i64_in (PA0.t1 + PA2.t1) (by omega)]) rfl,
  fun f s W c d h j k a => opm (a.v 31 (d 10 rfl)), trivial⟩ ?_
 intro f15 s15 W15 hB15 g15 hg15 z15
 refine wpe ?_
 have k15_13 := kt hg15 13 (kt hg14 13 (kt hg13 13 k12_13))
 refine ibn ?_
 refine hK21 _ _ ?_
 refine ry 2 [(32, 0), (13, 1)] [[], [0]] (rel [iI 3, iI 3])
  ⟨fun f s W c d h j k a => opv rfl rfl (by simp [go_sem, a.e 13 ((j 1 13 rfl rfl).trans k15_13), IntWalk.i64_in (3) (by omega)]) rfl,
  fun f s W c d h j k a => opm (a.v 32 (d 0 rfl)), trivial⟩ ?_
 intro f16 s16 W16 hB16 g16 hg16 z16
 refine wpe ?_
 have k16_12 := kt hg16 12 (kt hg15 12 (kt hg14 12 (kt hg13 12 (kt hg12 12 k11_12))))
 have k16_13 := kt hg16 13 (hB16.is 1)
 refine then_normal ?_
 rw [rounds_succ]
 refine rw_ 1 [(14, 0)] [[]] (rel [iB true])
  ⟨fun f s W c d h j k a => opv rfl rfl (by simp [go_sem, a.e 13 k16_13, a.e 12 k16_12]) rfl, trivial⟩ ?_
 intro f17 s17 W17 hB17 g17 hg17 z17
 have fB17 := hB17.f (hB16.f (hB15.f fB14))
 have k17_11 := kt hg17 11 (kt hg16 11 (kt hg15 11 (kt hg14 11 (kt hg13 11 k12_11))))
 have k17_13 := kt hg17 13 k16_13
 have k17_14 := kt hg17 14 (hB17.is 0)
 refine wp_seq_k fun K26 hK26 => ?_
 refine wp_cond_true ((fr_eval rfl).trans k17_14) ?_
 refine wp_skip ?_
 refine hK26 _ _ ?_
 refine wp_seq_k fun K28 hK28 => ?_
 refine wp_block ?_
 refine rw_ 5 [(15, 0), (16, 1), (17, 2), (5, 3), (6, 4)] [[], [], [1], [0], [2]] (rel [iI 3, is (.pointer (some ⟨tx, ux + 3, none⟩)), iI ((pa3 : Int)), iI 3, iI ((pa3 : Int))])
  ⟨fun f s W c d h j k a => opm (a.v 13 k17_13),
  fun f s W c d h j k a => opv rfl rfl (by simp [go_sem, a.e 11 k17_11, a.e 13 k17_13]) rfl,
  fun f s W c d h j k a => by have l := bwt fB17 c; have cu : W.cell? ⟨tx, ux + 3, none⟩ = some (.int .i64 (pa3 : Int)) := ii_cell (hX.below l (Nat.le_refl _)) 3 (by simp); exact opv rfl rfl (by simp [go_sem, a.e 16 (d 1 rfl), cu]) rfl,
  fun f s W c d h j k a => opm (a.v 15 (d 0 rfl)),
  fun f s W c d h j k a => opm (a.v 17 (d 2 rfl)), trivial⟩ ?_
 intro f18 s18 W18 hB18 g18 hg18 z18
 have k18_5 := kt hg18 5 (hB18.is 3)
 refine rw_ 3 [(18, 0), (19, 1), (20, 2)] [[], [0], [1]] (rel [iI 3, iI 1, iB false])
  ⟨fun f s W c d h j k a => opm (a.v 5 k18_5),
  fun f s W c d h j k a => by have qw_ := IntWalk.i64_in (1) (by decide); exact opv rfl rfl (by simp [go_sem, a.e 18 (d 0 rfl), qw_]) rfl,
  fun f s W c d h j k a => opv rfl rfl (by simp [go_sem, a.e 19 (d 1 rfl)]) rfl, trivial⟩ ?_
 intro f19 s19 W19 hB19 g19 hg19 z19
 have k19_13 := kt hg19 13 (kt hg18 13 k17_13)
 have k19_20 := kt hg19 20 (hB19.is 2)
 refine wp_cond_false ((fr_eval rfl).trans k19_20) ?_
 refine wp_skip ?_
 refine ibn ?_
 refine hK28 _ _ ?_
 refine ry 2 [(32, 0), (13, 1)] [[], [0]] (rel [iI 4, iI 4])
  ⟨fun f s W c d h j k a => opv rfl rfl (by simp [go_sem, a.e 13 ((j 1 13 rfl rfl).trans k19_13), IntWalk.i64_in (4) (by omega)]) rfl,
  fun f s W c d h j k a => opm (a.v 32 (d 0 rfl)), trivial⟩ ?_
 intro f20 s20 W20 hB20 g20 hg20 z20
 refine wpe ?_
 have k20_12 := kt hg20 12 (kt hg19 12 (kt hg18 12 (kt hg17 12 k16_12)))
 have k20_13 := kt hg20 13 (hB20.is 1)
 refine then_normal ?_
 rw [rounds_succ]
 refine rw_ 1 [(14, 0)] [[]] (rel [iB true])
  ⟨fun f s W c d h j k a => opv rfl rfl (by simp [go_sem, a.e 13 k20_13, a.e 12 k20_12]) rfl, trivial⟩ ?_
 intro f21 s21 W21 hB21 g21 hg21 z21
 have fB21 := hB21.f (hB20.f (hB19.f (hB18.f fB17)))
 have k21_11 := kt hg21 11 (kt hg20 11 (kt hg19 11 (kt hg18 11 k17_11)))
 have k21_13 := kt hg21 13 k20_13
 have k21_14 := kt hg21 14 (hB21.is 0)
 refine wp_seq_k fun K33 hK33 => ?_
 refine wp_cond_true ((fr_eval rfl).trans k21_14) ?_
 refine wp_skip ?_
 refine hK33 _ _ ?_
 refine wp_seq_k fun K35 hK35 => ?_
 refine wp_block ?_
 refine rw_ 5 [(15, 0), (16, 1), (17, 2), (5, 3), (6, 4)] [[], [], [1], [0], [2]] (rel [iI 4, is (.pointer (some ⟨tx, ux + 4, none⟩)), iI ((pa4 : Int)), iI 4, iI ((pa4 : Int))])
  ⟨fun f s W c d h j k a => opm (a.v 13 k21_13),
  fun f s W c d h j k a => opv rfl rfl (by simp [go_sem, a.e 11 k21_11, a.e 13 k21_13]) rfl,
  fun f s W c d h j k a => by have l := bwt fB21 c; have cu : W.cell? ⟨tx, ux + 4, none⟩ = some (.int .i64 (pa4 : Int)) := ii_cell (hX.below l (Nat.le_refl _)) 4 (by simp); exact opv rfl rfl (by simp [go_sem, a.e 16 (d 1 rfl), cu]) rfl,
  fun f s W c d h j k a => opm (a.v 15 (d 0 rfl)),
  fun f s W c d h j k a => opm (a.v 17 (d 2 rfl)), trivial⟩ ?_
 intro f22 s22 W22 hB22 g22 hg22 z22
 have k22_5 := kt hg22 5 (hB22.is 3)
 refine rw_ 3 [(18, 0), (19, 1), (20, 2)] [[], [0], [1]] (rel [iI 4, iI 0, iB true])
  ⟨fun f s W c d h j k a => opm (a.v 5 k22_5),
  fun f s W c d h j k a => by have qw_ := IntWalk.i64_in (0) (by decide); exact opv rfl rfl (by simp [go_sem, a.e 18 (d 0 rfl), qw_]) rfl,
  fun f s W c d h j k a => opv rfl rfl (by simp [go_sem, a.e 19 (d 1 rfl)]) rfl, trivial⟩ ?_
 intro f23 s23 W23 hB23 g23 hg23 z23
 have fB23 := hB23.f (hB22.f fB21)
 have b23_0 := hB23.b (hB22.b (hB21.b (hB20.b (hB19.b (hB18.b (hB17.b (hB16.b (hB15.b b14_0))))))))
 have k23_1 := kt hg23 1 (kt hg22 1 (kt hg21 1 (kt hg20 1 (kt hg19 1 (kt hg18 1 (kt hg17 1 (kt hg16 1 (kt hg15 1 k14_1))))))))
 have k23_2 := kt hg23 2 (kt hg22 2 (kt hg21 2 (kt hg20 2 (kt hg19 2 (kt hg18 2 (kt hg17 2 (kt hg16 2 (kt hg15 2 k14_2))))))))
 have k23_4 := kt hg23 4 (kt hg22 4 (kt hg21 4 (kt hg20 4 (kt hg19 4 (kt hg18 4 (kt hg17 4 (kt hg16 4 (kt hg15 4 (hB15.is 11)))))))))
 have k23_6 := kt hg23 6 (kt hg22 6 (hB22.is 4))
 have k23_20 := kt hg23 20 (hB23.is 2)
 refine wp_cond_true ((fr_eval rfl).trans k23_20) ?_
 refine ry 12 [(21, 0), (22, 1), (23, 2), (24, 3), (25, 4), (26, 5), (27, 6), (28, 7), (29, 8), (30, 9), (31, 10), (4, 11)] [[], [], [], [2], [3], [], [4, 5], [6], [7], [1, 8], [0, 9], [0, 10]] (rel [iI (PA0.t1 + PA2.t1), is (.func (.func 56) #[] #[]), is (.pointer (some ⟨(s1 0), 2, none⟩)), is (.pointer (some ⟨(s1 0), 2, none⟩)), is (.slice (some ⟨bp, oP, none⟩) np cp), iI ((pa4 : Int)), is (.pointer (some ⟨bp, oP + pa4 * 8, none⟩)), is (.pointer (some ⟨bp, oP + pa4 * 8 + 2, none⟩)), is (.agg #[.int .i64 PA4.t1, .int .i64 PA4.t2]), iI PA4.t1, iI ((PA0.t1 + PA2.t1) + PA4.t1), iI ((PA0.t1 + PA2.t1) + PA4.t1)])
  ⟨fun f s W c d h j k a => opm (a.v 4 ((j 11 4 rfl rfl).trans k23_4)),
  fun f s W c d h j k a => opm (a.v 1 k23_1),
  fun f s W c d h j k a => opv rfl rfl (by simp [go_sem, a.e 2 k23_2]) rfl,
  fun f s W c d h j k a => opv rfl rfl (by simp [go_sem, a.e 23 (d 2 rfl)]) rfl,
  fun f s W c d h j k a => opv rfl rfl (by simp [go_sem, a.e 24 (d 3 rfl), cb b23_0 c 2]) rfl,
  fun f s W c d h j k a => opm (a.v 6 k23_6),
  fun f s W c d h j k a => by have li_ := Nat.not_le.2 hpa4; have lz_ : (pa4 : Int) < (np : Int) := (by omega); exact opv rfl rfl (by simp [go_sem, a.e 25 (d 4 rfl), a.e 26 (d 5 rfl), li_, hpa4, lz_]) rfl,
  fun f s W c d h j k a => opv rfl rfl (by simp [go_sem, a.e 27 (d 6 rfl)]) rfl,
  fun f s W c d h j k a => by have l := bwt fB23 c; have E_ := (hP.below l).2 pa4 hpa4; rw [epa4] at E_; obtain ⟨u0_, u1_, u2_, u3_, u4_, u5_, u6_, u7_⟩ := E_; have v0_ : W.cell? ⟨bp, oP + pa4 * 8 + 2, none⟩ = some (.int .i64 PA4.t1) := u2_; have v1_ : W.cell? ⟨bp, oP + pa4 * 8 + 2 + 1, none⟩ = some (.int .i64 PA4.t2) := u3_; exact opv rfl rfl (by simp [go_sem, a.e 28 (d 7 rfl), v0_, v1_]) rfl,
  fun f s W c d h j k a => opc rfl rfl (by simp [go_sem, a.e 29 (d 8 rfl), a.e 22 (d 1 rfl)]) (low_ok (PA4.t1) (PA4.t2) W),
  fun f s W c d h j k a => opv rfl rfl (by simp [go_sem, a.e 21 (d 0 rfl), a.e 30 (d 9 rfl), IntWalk.i64_in ((PA0.t1 + PA2.t1) + PA4.t1) (by omega)]) rfl,
  fun f s W c d h j k a => opm (a.v 31 (d 10 rfl)), trivial⟩ ?_
 intro f24 s24 W24 hB24 g24 hg24 z24
 refine wpe ?_
 have k24_13 := kt hg24 13 (kt hg23 13 (kt hg22 13 k21_13))
 refine ibn ?_
 refine hK35 _ _ ?_
 refine ry 2 [(32, 0), (13, 1)] [[], [0]] (rel [iI 5, iI 5])
  ⟨fun f s W c d h j k a => opv rfl rfl (by simp [go_sem, a.e 13 ((j 1 13 rfl rfl).trans k24_13), IntWalk.i64_in (5) (by omega)]) rfl,
  fun f s W c d h j k a => opm (a.v 32 (d 0 rfl)), trivial⟩ ?_
 intro f25 s25 W25 hB25 g25 hg25 z25
 refine wpe ?_
 have k25_12 := kt hg25 12 (kt hg24 12 (kt hg23 12 (kt hg22 12 (kt hg21 12 k20_12))))
 have k25_13 := kt hg25 13 (hB25.is 1)
 refine then_normal ?_
 rw [rounds_succ]
 refine rw_ 1 [(14, 0)] [[]] (rel [iB false])
  ⟨fun f s W c d h j k a => opv rfl rfl (by simp [go_sem, a.e 13 k25_13, a.e 12 k25_12]) rfl, trivial⟩ ?_
 intro f26 s26 W26 hB26 g26 hg26 z26
 have b26_0 := hB26.b (hB25.b (hB24.b b23_0))
 have k26_2 := kt hg26 2 (kt hg25 2 (kt hg24 2 k23_2))
 have k26_14 := kt hg26 14 (hB26.is 0)
 refine wp_seq_k fun K40 hK40 => ?_
 refine wp_cond_false ((fr_eval rfl).trans k26_14) ?_
 refine wp_exit ?_
 refine then_exit ?_
 refine then_exit ?_
 refine inBlock_at ?_
 refine hK2 _ _ ?_
 refine wp_seq_k fun K42 hK42 => ?_
 refine rw_ 5 [(33, 0), (34, 1), (35, 2), (36, 3), (37, 4)] [[], [0], [1], [2], []] (rel [is (.pointer (some ⟨(s1 0), 0, none⟩)), is (.pointer (some ⟨(s1 0), 1, none⟩)), is (.slice (some ⟨tf, uf, none⟩) 2 cf), iI 2, iI 0])
  ⟨fun f s W c d h j k a => opv rfl rfl (by simp [go_sem, a.e 2 k26_2]) rfl,
  fun f s W c d h j k a => opv rfl rfl (by simp [go_sem, a.e 33 (d 0 rfl)]) rfl,
  fun f s W c d h j k a => opv rfl rfl (by simp [go_sem, a.e 34 (d 1 rfl), cb b26_0 c 1]) rfl,
  fun f s W c d h j k a => opv rfl rfl (by simp [go_sem, a.e 35 (d 2 rfl)]) rfl,
  fun f s W c d h j k a => opz, trivial⟩ ?_
 intro f27 s27 W27 hB27 g27 hg27 z27
 have k27_36 := kt hg27 36 (hB27.is 3)
 have k27_37 := kt hg27 37 (hB27.is 4)
 refine wp_block ?_
 refine wp_loop_rounds 3 ?_
 rw [rounds_succ]
 refine rw_ 1 [(38, 0)] [[]] (rel [iB true])
  ⟨fun f s W c d h j k a => opv rfl rfl (by simp [go_sem, a.e 37 k27_37, a.e 36 k27_36]) rfl, trivial⟩ ?_
 intro f28 s28 W28 hB28 g28 hg28 z28
 have fB28 := hB28.f (hB27.f (hB26.f (hB25.f (hB24.f fB23))))
 have k28_35 := kt hg28 35 (kt hg27 35 (hB27.is 2))
 have k28_37 := kt hg28 37 k27_37
 have k28_38 := kt hg28 38 (hB28.is 0)
 refine wp_seq_k fun K45 hK45 => ?_
 refine wp_cond_true ((fr_eval rfl).trans k28_38) ?_
 refine wp_skip ?_
 refine hK45 _ _ ?_
 refine wp_seq_k fun K47 hK47 => ?_
 refine wp_block ?_
 refine rw_ 3 [(39, 0), (40, 1), (8, 2)] [[], [0], [1]] (rel [is (.pointer (some ⟨tf, uf, none⟩)), iI ((fa0 : Int)), iI ((fa0 : Int))])
  ⟨fun f s W c d h j k a => opv rfl rfl (by simp [go_sem, a.e 35 k28_35, a.e 37 k28_37]) rfl,
  fun f s W c d h j k a => by have l := bwt fB28 c; have cu : W.cell? ⟨tf, uf, none⟩ = some (.int .i64 (fa0 : Int)) := ii_cell (hF.below l (Nat.le_refl _)) 0 (by simp); exact opv rfl rfl (by simp [go_sem, a.e 39 (d 0 rfl), cu]) rfl,
  fun f s W c d h j k a => opm (a.v 40 (d 1 rfl)), trivial⟩ ?_
 intro f29 s29 W29 hB29 g29 hg29 z29
 have fB29 := hB29.f fB28
 have b29_0 := hB29.b (hB28.b (hB27.b b26_0))
 have k29_1 := kt hg29 1 (kt hg28 1 (kt hg27 1 (kt hg26 1 (kt hg25 1 (kt hg24 1 k23_1)))))
 have k29_2 := kt hg29 2 (kt hg28 2 (kt hg27 2 k26_2))
 have k29_4 := kt hg29 4 (kt hg28 4 (kt hg27 4 (kt hg26 4 (kt hg25 4 (kt hg24 4 (hB24.is 11))))))
 have k29_8 := kt hg29 8 (hB29.is 2)
 refine ry 12 [(41, 0), (42, 1), (43, 2), (44, 3), (45, 4), (46, 5), (47, 6), (48, 7), (49, 8), (50, 9), (51, 10), (4, 11)] [[], [], [], [2], [3], [], [4, 5], [6], [7], [1, 8], [0, 9], [0, 10]] (rel [iI ((PA0.t1 + PA2.t1) + PA4.t1), is (.func (.func 56) #[] #[]), is (.pointer (some ⟨(s1 0), 2, none⟩)), is (.pointer (some ⟨(s1 0), 3, none⟩)), is (.slice (some ⟨bq, oq, none⟩) nq cq), iI ((fa0 : Int)), is (.pointer (some ⟨bq, oq + fa0 * 4, none⟩)), is (.pointer (some ⟨bq, oq + fa0 * 4 + 2, none⟩)), is (.agg #[.int .i64 FA0.h1, .int .i64 FA0.h2]), iI FA0.h1, iI (((PA0.t1 + PA2.t1) + PA4.t1) + FA0.h1), iI (((PA0.t1 + PA2.t1) + PA4.t1) + FA0.h1)])
  ⟨fun f s W c d h j k a => opm (a.v 4 ((j 11 4 rfl rfl).trans k29_4)),
  fun f s W c d h j k a => opm (a.v 1 k29_1),
  fun f s W c d h j k a => opv rfl rfl (by simp [go_sem, a.e 2 k29_2]) rfl,
  fun f s W c d h j k a => opv rfl rfl (by simp [go_sem, a.e 43 (d 2 rfl)]) rfl,
  fun f s W c d h j k a => opv rfl rfl (by simp [go_sem, a.e 44 (d 3 rfl), cb b29_0 c 3]) rfl,
  fun f s W c d h j k a => opm (a.v 8 k29_8),
  fun f s W c d h j k a => by have li_ := Nat.not_le.2 hfa0; have lz_ : (fa0 : Int) < (nq : Int) := (by omega); exact opv rfl rfl (by simp [go_sem, a.e 45 (d 4 rfl), a.e 46 (d 5 rfl), li_, hfa0, lz_]) rfl,
  fun f s W c d h j k a => opv rfl rfl (by simp [go_sem, a.e 47 (d 6 rfl)]) rfl,
  fun f s W c d h j k a => by have l := bwt fB29 c; have E_ := (hQ.below l).2 fa0 hfa0; rw [efa0] at E_; obtain ⟨u0_, u1_, u2_, u3_⟩ := E_; have v0_ : W.cell? ⟨bq, oq + fa0 * 4 + 2, none⟩ = some (.int .i64 FA0.h1) := u2_; have v1_ : W.cell? ⟨bq, oq + fa0 * 4 + 2 + 1, none⟩ = some (.int .i64 FA0.h2) := u3_; exact opv rfl rfl (by simp [go_sem, a.e 48 (d 7 rfl), v0_, v1_]) rfl,
  fun f s W c d h j k a => opc rfl rfl (by simp [go_sem, a.e 49 (d 8 rfl), a.e 42 (d 1 rfl)]) (low_ok (FA0.h1) (FA0.h2) W),
  fun f s W c d h j k a => opv rfl rfl (by simp [go_sem, a.e 41 (d 0 rfl), a.e 50 (d 9 rfl), IntWalk.i64_in (((PA0.t1 + PA2.t1) + PA4.t1) + FA0.h1) (by omega)]) rfl,
  fun f s W c d h j k a => opm (a.v 51 (d 10 rfl)), trivial⟩ ?_
 intro f30 s30 W30 hB30 g30 hg30 z30
 refine wpe ?_
 have k30_37 := kt hg30 37 (kt hg29 37 k28_37)
 refine ibn ?_
 refine hK47 _ _ ?_
 refine ry 2 [(52, 0), (37, 1)] [[], [0]] (rel [iI 1, iI 1])
  ⟨fun f s W c d h j k a => opv rfl rfl (by simp [go_sem, a.e 37 ((j 1 37 rfl rfl).trans k30_37), IntWalk.i64_in (1) (by omega)]) rfl,
  fun f s W c d h j k a => opm (a.v 52 (d 0 rfl)), trivial⟩ ?_
 intro f31 s31 W31 hB31 g31 hg31 z31
 refine wpe ?_
 have k31_36 := kt hg31 36 (kt hg30 36 (kt hg29 36 (kt hg28 36 k27_36)))
 have k31_37 := kt hg31 37 (hB31.is 1)
 refine then_normal ?_
 rw [rounds_succ]
 refine rw_ 1 [(38, 0)] [[]] (rel [iB true])
  ⟨fun f s W c d h j k a => opv rfl rfl (by simp [go_sem, a.e 37 k31_37, a.e 36 k31_36]) rfl, trivial⟩ ?_
 intro f32 s32 W32 hB32 g32 hg32 z32
 have fB32 := hB32.f (hB31.f (hB30.f fB29))
 have k32_35 := kt hg32 35 (kt hg31 35 (kt hg30 35 (kt hg29 35 k28_35)))
 have k32_37 := kt hg32 37 k31_37
 have k32_38 := kt hg32 38 (hB32.is 0)
 refine wp_seq_k fun K50 hK50 => ?_
 refine wp_cond_true ((fr_eval rfl).trans k32_38) ?_
 refine wp_skip ?_
 refine hK50 _ _ ?_
 refine wp_seq_k fun K52 hK52 => ?_
 refine wp_block ?_
 refine rw_ 3 [(39, 0), (40, 1), (8, 2)] [[], [0], [1]] (rel [is (.pointer (some ⟨tf, uf + 1, none⟩)), iI ((fa1 : Int)), iI ((fa1 : Int))])
  ⟨fun f s W c d h j k a => opv rfl rfl (by simp [go_sem, a.e 35 k32_35, a.e 37 k32_37]) rfl,
  fun f s W c d h j k a => by have l := bwt fB32 c; have cu : W.cell? ⟨tf, uf + 1, none⟩ = some (.int .i64 (fa1 : Int)) := ii_cell (hF.below l (Nat.le_refl _)) 1 (by simp); exact opv rfl rfl (by simp [go_sem, a.e 39 (d 0 rfl), cu]) rfl,
  fun f s W c d h j k a => opm (a.v 40 (d 1 rfl)), trivial⟩ ?_
 intro f33 s33 W33 hB33 g33 hg33 z33
 have fB33 := hB33.f fB32
 have b33_0 := hB33.b (hB32.b (hB31.b (hB30.b b29_0)))
 have k33_1 := kt hg33 1 (kt hg32 1 (kt hg31 1 (kt hg30 1 k29_1)))
 have k33_2 := kt hg33 2 (kt hg32 2 (kt hg31 2 (kt hg30 2 k29_2)))
 have k33_4 := kt hg33 4 (kt hg32 4 (kt hg31 4 (kt hg30 4 (hB30.is 11))))
 have k33_8 := kt hg33 8 (hB33.is 2)
 refine ry 12 [(41, 0), (42, 1), (43, 2), (44, 3), (45, 4), (46, 5), (47, 6), (48, 7), (49, 8), (50, 9), (51, 10), (4, 11)] [[], [], [], [2], [3], [], [4, 5], [6], [7], [1, 8], [0, 9], [0, 10]] (rel [iI (((PA0.t1 + PA2.t1) + PA4.t1) + FA0.h1), is (.func (.func 56) #[] #[]), is (.pointer (some ⟨(s1 0), 2, none⟩)), is (.pointer (some ⟨(s1 0), 3, none⟩)), is (.slice (some ⟨bq, oq, none⟩) nq cq), iI ((fa1 : Int)), is (.pointer (some ⟨bq, oq + fa1 * 4, none⟩)), is (.pointer (some ⟨bq, oq + fa1 * 4 + 2, none⟩)), is (.agg #[.int .i64 FA1.h1, .int .i64 FA1.h2]), iI FA1.h1, iI ((((PA0.t1 + PA2.t1) + PA4.t1) + FA0.h1) + FA1.h1), iI ((((PA0.t1 + PA2.t1) + PA4.t1) + FA0.h1) + FA1.h1)])
  ⟨fun f s W c d h j k a => opm (a.v 4 ((j 11 4 rfl rfl).trans k33_4)),
  fun f s W c d h j k a => opm (a.v 1 k33_1),
  fun f s W c d h j k a => opv rfl rfl (by simp [go_sem, a.e 2 k33_2]) rfl,
  fun f s W c d h j k a => opv rfl rfl (by simp [go_sem, a.e 43 (d 2 rfl)]) rfl,
  fun f s W c d h j k a => opv rfl rfl (by simp [go_sem, a.e 44 (d 3 rfl), cb b33_0 c 3]) rfl,
  fun f s W c d h j k a => opm (a.v 8 k33_8),
  fun f s W c d h j k a => by have li_ := Nat.not_le.2 hfa1; have lz_ : (fa1 : Int) < (nq : Int) := (by omega); exact opv rfl rfl (by simp [go_sem, a.e 45 (d 4 rfl), a.e 46 (d 5 rfl), li_, hfa1, lz_]) rfl,
  fun f s W c d h j k a => opv rfl rfl (by simp [go_sem, a.e 47 (d 6 rfl)]) rfl,
  fun f s W c d h j k a => by have l := bwt fB33 c; have E_ := (hQ.below l).2 fa1 hfa1; rw [efa1] at E_; obtain ⟨u0_, u1_, u2_, u3_⟩ := E_; have v0_ : W.cell? ⟨bq, oq + fa1 * 4 + 2, none⟩ = some (.int .i64 FA1.h1) := u2_; have v1_ : W.cell? ⟨bq, oq + fa1 * 4 + 2 + 1, none⟩ = some (.int .i64 FA1.h2) := u3_; exact opv rfl rfl (by simp [go_sem, a.e 48 (d 7 rfl), v0_, v1_]) rfl,
  fun f s W c d h j k a => opc rfl rfl (by simp [go_sem, a.e 49 (d 8 rfl), a.e 42 (d 1 rfl)]) (low_ok (FA1.h1) (FA1.h2) W),
  fun f s W c d h j k a => opv rfl rfl (by simp [go_sem, a.e 41 (d 0 rfl), a.e 50 (d 9 rfl), IntWalk.i64_in ((((PA0.t1 + PA2.t1) + PA4.t1) + FA0.h1) + FA1.h1) (by omega)]) rfl,
  fun f s W c d h j k a => opm (a.v 51 (d 10 rfl)), trivial⟩ ?_
 intro f34 s34 W34 hB34 g34 hg34 z34
 refine wpe ?_
 have k34_37 := kt hg34 37 (kt hg33 37 k32_37)
 refine ibn ?_
 refine hK52 _ _ ?_
 refine ry 2 [(52, 0), (37, 1)] [[], [0]] (rel [iI 2, iI 2])
  ⟨fun f s W c d h j k a => opv rfl rfl (by simp [go_sem, a.e 37 ((j 1 37 rfl rfl).trans k34_37), IntWalk.i64_in (2) (by omega)]) rfl,
  fun f s W c d h j k a => opm (a.v 52 (d 0 rfl)), trivial⟩ ?_
 intro f35 s35 W35 hB35 g35 hg35 z35
 refine wpe ?_
 have k35_36 := kt hg35 36 (kt hg34 36 (kt hg33 36 (kt hg32 36 k31_36)))
 have k35_37 := kt hg35 37 (hB35.is 1)
 refine then_normal ?_
 rw [rounds_succ]
 refine rw_ 1 [(38, 0)] [[]] (rel [iB false])
  ⟨fun f s W c d h j k a => opv rfl rfl (by simp [go_sem, a.e 37 k35_37, a.e 36 k35_36]) rfl, trivial⟩ ?_
 intro f36 s36 W36 hB36 g36 hg36 z36
 have k36_4 := kt hg36 4 (kt hg35 4 (kt hg34 4 (hB34.is 11)))
 have k36_38 := kt hg36 38 (hB36.is 0)
 refine wp_seq_k fun K55 hK55 => ?_
 refine wp_cond_false ((fr_eval rfl).trans k36_38) ?_
 refine wp_exit ?_
 refine then_exit ?_
 refine then_exit ?_
 refine inBlock_at ?_
 refine hK42 _ _ ?_
 refine rw_ 2 [(53, 0), (4, 1)] [[], [0]] (rel [iI ((((PA0.t1 + PA2.t1) + PA4.t1) + FA0.h1) + FA1.h1), iI ((((PA0.t1 + PA2.t1) + PA4.t1) + FA0.h1) + FA1.h1)])
  ⟨fun f s W c d h j k a => opm (a.v 4 ((j 1 4 rfl rfl).trans k36_4)),
  fun f s W c d h j k a => opm (a.v 53 (d 0 rfl)), trivial⟩ ?_
 intro f37 s37 W37 hB37 g37 hg37 z37
 have fB37 := hB37.f (hB36.f (hB35.f (hB34.f fB33)))
 have k37_4 := kt hg37 4 (hB37.is 1)
 refine wp_ret ?_
 refine leave_one (N := 54) (.inr rfl) Try.results59 rfl k37_4 ?_
 exact ⟨rfl, fB37⟩
theorem caliper_2_2 (ps : Nat → Pa) (qs : Nat → Fu) (bp oP np cp bq oq nq cq : Nat) (tx ux cx tf uf cf pa0 pa1 pa2 pa3 pa4 fa0 fa1 : Nat) (PA0 PA1 PA2 PA3 PA4 : Pa) (FA0 FA1 : Fu) (wh : Int) (w : World) (hP : PaR w bp oP np ps) (hQ : FuR w bq oq nq qs) (hpi : ∀ i, i < np → PaIn (ps i)) (hqi : ∀ i, i < nq → FuIn (qs i)) (np1 : 1 ≤ np) (np8 : np ≤ 8) (nq1 : 1 ≤ nq) (nq4 : nq ≤ 4) (hX : Ii w (some ⟨tx, ux, none⟩) 5 cx [(pa0 : Int), (pa1 : Int), (pa2 : Int), (pa3 : Int), (pa4 : Int)]) (hF : Ii w (some ⟨tf, uf, none⟩) 2 cf [(fa0 : Int), (fa1 : Int)]) (hpa0 : pa0 < np) (epa0 : ps pa0 = PA0) (hpa1 : pa1 < np) (epa1 : ps pa1 = PA1) (hpa2 : pa2 < np) (epa2 : ps pa2 = PA2) (hpa3 : pa3 < np) (epa3 : ps pa3 = PA3) (hpa4 : pa4 < np) (epa4 : ps pa4 = PA4) (hfa0 : fa0 < nq) (efa0 : qs fa0 = FA0) (hfa1 : fa1 < nq) (efa1 : qs fa1 = FA1) (hk0 : PA0.kind = 1) (hk1 : PA1.kind = 2) (hk2 : PA2.kind = 1) (hk3 : PA3.kind = 2) (hk4 : PA4.kind = 1) (hwh : FA0.pitch * FA1.pitch = wh) (gwh : 0 ≤ wh ∧ wh ≤ 100000000) (gw1 : 0 ≤ FA0.pitch ∧ FA0.pitch ≤ 10000) :
  Calls Try.prog 59 #[.agg #[.slice (some ⟨tx, ux, none⟩) 5 cx, .slice (some ⟨tf, uf, none⟩) 2 cf, .slice (some ⟨bp, oP, none⟩) np cp, .slice (some ⟨bq, oq, none⟩) nq cq, .int .i64 wh], .func (.func 57) #[] #[]] w (fun e w' => e = .returned (.int .i64 ((((PA0.t2 + PA2.t2) + PA4.t2) + FA0.h2) + FA1.h2)) ∧ Below w.heap.size w w') := by
 have gi0 := (epa0 ▸ hpi pa0 hpa0 : PaIn PA0).thick
 have gi1 := (epa1 ▸ hpi pa1 hpa1 : PaIn PA1).thick
 have gi2 := (epa2 ▸ hpi pa2 hpa2 : PaIn PA2).thick
 have gi3 := (epa3 ▸ hpi pa3 hpa3 : PaIn PA3).thick
 have gi4 := (epa4 ▸ hpi pa4 hpa4 : PaIn PA4).thick
 have gj0 := (efa0 ▸ hqi fa0 hfa0 : FuIn FA0).high
 have gj1 := (efa1 ▸ hqi fa1 hfa1 : FuIn FA1).high
 refine calls_fr Try.func59 Try.ntmps59 rfl rfl fun g hg => ?_
 have k0 : g 0 = .agg #[.slice (some ⟨tx, ux, none⟩) 5 cx, .slice (some ⟨tf, uf, none⟩) 2 cf, .slice (some ⟨bp, oP, none⟩) np cp, .slice (some ⟨bq, oq, none⟩) nq cq, .int .i64 wh] := hg 0
 have k1 : g 1 = .func (.func 57) #[] #[] := hg 1
 clear hg
 have fB0 : Below w.heap.size w w := Below.refl _ _
 refine rw_ 2 [(2, 0), (4, 1)] [[], []] (rel [bx 0 #[.slice (some ⟨tx, ux, none⟩) 5 cx, .slice (some ⟨tf, uf, none⟩) 2 cf, .slice (some ⟨bp, oP, none⟩) np cp, .slice (some ⟨bq, oq, none⟩) nq cq, .int .i64 wh] 95, iI 0])
  ⟨fun f s W c d h j k a => opb rfl rfl (by simp [go_sem, a.e 0 k0]),
  fun f s W c d h j k a => opz, trivial⟩ ?_
 intro f1 s1 W1 hB1 g1 hg1 z1
 obtain ⟨r1_0, br1_0⟩ := hB1.is 0
 have lr1_0 := hB1.lr 0 br1_0
 have k1_2 := kt hg1 2 r1_0
 refine wp_seq_k fun K2 hK2 => ?_
 refine rw_ 5 [(9, 0), (10, 1), (11, 2), (12, 3), (13, 4)] [[], [0], [1], [2], []] (rel [is (.pointer (some ⟨(s1 0), 0, none⟩)), is (.pointer (some ⟨(s1 0), 0, none⟩)), is (.slice (some ⟨tx, ux, none⟩) 5 cx), iI 5, iI 0])
  ⟨fun f s W c d h j k a => opv rfl rfl (by simp [go_sem, a.e 2 k1_2]) rfl,
  fun f s W c d h j k a => opv rfl rfl (by simp [go_sem, a.e 9 (d 0 rfl)]) rfl,
  fun f s W c d h j k a => opv rfl rfl (by simp [go_sem, a.e 10 (d 1 rfl), cb br1_0 c 0]) rfl,
  fun f s W c d h j k a => opv rfl rfl (by simp [go_sem, a.e 11 (d 2 rfl)]) rfl,
  fun f s W c d h j k a => opz, trivial⟩ ?_
 intro f2 s2 W2 hB2 g2 hg2 z2
 have k2_12 := kt hg2 12 (hB2.is 3)
 have k2_13 := kt hg2 13 (hB2.is 4)
 refine wp_block ?_
 refine wp_loop_rounds 6 ?_
 rw [rounds_succ]
 refine rw_ 1 [(14, 0)] [[]] (rel [iB true])
  ⟨fun f s W c d h j k a => opv rfl rfl (by simp [go_sem, a.e 13 k2_13, a.e 12 k2_12]) rfl, trivial⟩ ?_
 intro f3 s3 W3 hB3 g3 hg3 z3
 have fB3 := hB3.f (hB2.f (hB1.f fB0))
 have k3_11 := kt hg3 11 (kt hg2 11 (hB2.is 2))
 have k3_13 := kt hg3 13 k2_13
 have k3_14 := kt hg3 14 (hB3.is 0)
 refine wp_seq_k fun K5 hK5 => ?_
 refine wp_cond_true ((fr_eval rfl).trans k3_14) ?_
 refine wp_skip ?_
 refine hK5 _ _ ?_
 refine wp_seq_k fun K7 hK7 => ?_
 refine wp_block ?_
 refine rw_ 5 [(15, 0), (16, 1), (17, 2), (5, 3), (6, 4)] [[], [], [1], [0], [2]] (rel [iI 0, is (.pointer (some ⟨tx, ux, none⟩)), iI ((pa0 : Int)), iI 0, iI ((pa0 : Int))])
  ⟨fun f s W c d h j k a => opm (a.v 13 k3_13),
  fun f s W c d h j k a => opv rfl rfl (by simp [go_sem, a.e 11 k3_11, a.e 13 k3_13]) rfl,
  fun f s W c d h j k a => by have l := bwt fB3 c; have cu : W.cell? ⟨tx, ux, none⟩ = some (.int .i64 (pa0 : Int)) := ii_cell (hX.below l (Nat.le_refl _)) 0 (by simp); exact opv rfl rfl (by simp [go_sem, a.e 16 (d 1 rfl), cu]) rfl,
  fun f s W c d h j k a => opm (a.v 15 (d 0 rfl)),
  fun f s W c d h j k a => opm (a.v 17 (d 2 rfl)), trivial⟩ ?_
 intro f4 s4 W4 hB4 g4 hg4 z4
 have k4_5 := kt hg4 5 (hB4.is 3)
 refine rw_ 3 [(18, 0), (19, 1), (20, 2)] [[], [0], [1]] (rel [iI 0, iI 0, iB true])
  ⟨fun f s W c d h j k a => opm (a.v 5 k4_5),
  fun f s W c d h j k a => by have qw_ := IntWalk.i64_in (0) (by decide); exact opv rfl rfl (by simp [go_sem, a.e 18 (d 0 rfl), qw_]) rfl,
  fun f s W c d h j k a => opv rfl rfl (by simp [go_sem, a.e 19 (d 1 rfl)]) rfl, trivial⟩ ?_
 intro f5 s5 W5 hB5 g5 hg5 z5
 have fB5 := hB5.f (hB4.f fB3)
 have b5_0 := hB5.b (hB4.b (hB3.b (hB2.b br1_0)))
 have k5_1 := kt hg5 1 (kt hg4 1 (kt hg3 1 (kt hg2 1 (kt hg1 1 k1))))
 have k5_2 := kt hg5 2 (kt hg4 2 (kt hg3 2 (kt hg2 2 k1_2)))
 have k5_4 := kt hg5 4 (kt hg4 4 (kt hg3 4 (kt hg2 4 (kt hg1 4 (hB1.is 1)))))
 have k5_6 := kt hg5 6 (kt hg4 6 (hB4.is 4))
 have k5_20 := kt hg5 20 (hB5.is 2)
 refine wp_cond_true ((fr_eval rfl).trans k5_20) ?_
 refine ry 12 [(21, 0), (22, 1), (23, 2), (24, 3), (25, 4), (26, 5), (27, 6), (28, 7), (29, 8), (30, 9), (31, 10), (4, 11)] [[], [], [], [2], [3], [], [4, 5], [6], [7], [1, 8], [0, 9], [0, 10]] (rel [iI 0, is (.func (.func 57) #[] #[]), is (.pointer (some ⟨(s1 0), 2, none⟩)), is (.pointer (some ⟨(s1 0), 2, none⟩)), is (.slice (some ⟨bp, oP, none⟩) np cp), iI ((pa0 : Int)), is (.pointer (some ⟨bp, oP + pa0 * 8, none⟩)), is (.pointer (some ⟨bp, oP + pa0 * 8 + 2, none⟩)), is (.agg #[.int .i64 PA0.t1, .int .i64 PA0.t2]), iI PA0.t2, iI PA0.t2, iI PA0.t2])
  ⟨fun f s W c d h j k a => opm (a.v 4 ((j 11 4 rfl rfl).trans k5_4)),
  fun f s W c d h j k a => opm (a.v 1 k5_1),
  fun f s W c d h j k a => opv rfl rfl (by simp [go_sem, a.e 2 k5_2]) rfl,
  fun f s W c d h j k a => opv rfl rfl (by simp [go_sem, a.e 23 (d 2 rfl)]) rfl,
  fun f s W c d h j k a => opv rfl rfl (by simp [go_sem, a.e 24 (d 3 rfl), cb b5_0 c 2]) rfl,
  fun f s W c d h j k a => opm (a.v 6 k5_6),
  fun f s W c d h j k a => by have li_ := Nat.not_le.2 hpa0; have lz_ : (pa0 : Int) < (np : Int) := (by omega); exact opv rfl rfl (by simp [go_sem, a.e 25 (d 4 rfl), a.e 26 (d 5 rfl), li_, hpa0, lz_]) rfl,
  fun f s W c d h j k a => opv rfl rfl (by simp [go_sem, a.e 27 (d 6 rfl)]) rfl,
  fun f s W c d h j k a => by have l := bwt fB5 c; have E_ := (hP.below l).2 pa0 hpa0; rw [epa0] at E_; obtain ⟨u0_, u1_, u2_, u3_, u4_, u5_, u6_, u7_⟩ := E_; have v0_ : W.cell? ⟨bp, oP + pa0 * 8 + 2, none⟩ = some (.int .i64 PA0.t1) := u2_; have v1_ : W.cell? ⟨bp, oP + pa0 * 8 + 2 + 1, none⟩ = some (.int .i64 PA0.t2) := u3_; exact opv rfl rfl (by simp [go_sem, a.e 28 (d 7 rfl), v0_, v1_]) rfl,
  fun f s W c d h j k a => opc rfl rfl (by simp [go_sem, a.e 29 (d 8 rfl), a.e 22 (d 1 rfl)]) (high_ok (PA0.t1) (PA0.t2) W),
  fun f s W c d h j k a => opv rfl rfl (by simp [go_sem, a.e 21 (d 0 rfl), a.e 30 (d 9 rfl), IntWalk.i64_in (PA0.t2) (by omega)]) rfl,
  fun f s W c d h j k a => opm (a.v 31 (d 10 rfl)), trivial⟩ ?_
 intro f6 s6 W6 hB6 g6 hg6 z6
 refine wpe ?_
 have k6_13 := kt hg6 13 (kt hg5 13 (kt hg4 13 k3_13))
 refine ibn ?_
 refine hK7 _ _ ?_
 refine ry 2 [(32, 0), (13, 1)] [[], [0]] (rel [iI 1, iI 1])
  ⟨fun f s W c d h j k a => opv rfl rfl (by simp [go_sem, a.e 13 ((j 1 13 rfl rfl).trans k6_13), IntWalk.i64_in (1) (by omega)]) rfl,
  fun f s W c d h j k a => opm (a.v 32 (d 0 rfl)), trivial⟩ ?_
 intro f7 s7 W7 hB7 g7 hg7 z7
 refine wpe ?_
 have k7_12 := kt hg7 12 (kt hg6 12 (kt hg5 12 (kt hg4 12 (kt hg3 12 k2_12))))
 have k7_13 := kt hg7 13 (hB7.is 1)
 refine then_normal ?_
 rw [rounds_succ]
 refine rw_ 1 [(14, 0)] [[]] (rel [iB true])
  ⟨fun f s W c d h j k a => opv rfl rfl (by simp [go_sem, a.e 13 k7_13, a.e 12 k7_12]) rfl, trivial⟩ ?_
 intro f8 s8 W8 hB8 g8 hg8 z8
 have fB8 := hB8.f (hB7.f (hB6.f fB5))
 have k8_11 := kt hg8 11 (kt hg7 11 (kt hg6 11 (kt hg5 11 (kt hg4 11 k3_11))))
 have k8_13 := kt hg8 13 k7_13
 have k8_14 := kt hg8 14 (hB8.is 0)
 refine wp_seq_k fun K12 hK12 => ?_
 refine wp_cond_true ((fr_eval rfl).trans k8_14) ?_
 refine wp_skip ?_
 refine hK12 _ _ ?_
 refine wp_seq_k fun K14 hK14 => ?_
 refine wp_block ?_
 refine rw_ 5 [(15, 0), (16, 1), (17, 2), (5, 3), (6, 4)] [[], [], [1], [0], [2]] (rel [iI 1, is (.pointer (some ⟨tx, ux + 1, none⟩)), iI ((pa1 : Int)), iI 1, iI ((pa1 : Int))])
  ⟨fun f s W c d h j k a => opm (a.v 13 k8_13),
  fun f s W c d h j k a => opv rfl rfl (by simp [go_sem, a.e 11 k8_11, a.e 13 k8_13]) rfl,
  fun f s W c d h j k a => by have l := bwt fB8 c; have cu : W.cell? ⟨tx, ux + 1, none⟩ = some (.int .i64 (pa1 : Int)) := ii_cell (hX.below l (Nat.le_refl _)) 1 (by simp); exact opv rfl rfl (by simp [go_sem, a.e 16 (d 1 rfl), cu]) rfl,
  fun f s W c d h j k a => opm (a.v 15 (d 0 rfl)),
  fun f s W c d h j k a => opm (a.v 17 (d 2 rfl)), trivial⟩ ?_
 intro f9 s9 W9 hB9 g9 hg9 z9
 have k9_5 := kt hg9 5 (hB9.is 3)
 refine rw_ 3 [(18, 0), (19, 1), (20, 2)] [[], [0], [1]] (rel [iI 1, iI 1, iB false])
  ⟨fun f s W c d h j k a => opm (a.v 5 k9_5),
  fun f s W c d h j k a => by have qw_ := IntWalk.i64_in (1) (by decide); exact opv rfl rfl (by simp [go_sem, a.e 18 (d 0 rfl), qw_]) rfl,
  fun f s W c d h j k a => opv rfl rfl (by simp [go_sem, a.e 19 (d 1 rfl)]) rfl, trivial⟩ ?_
 intro f10 s10 W10 hB10 g10 hg10 z10
 have k10_13 := kt hg10 13 (kt hg9 13 k8_13)
 have k10_20 := kt hg10 20 (hB10.is 2)
 refine wp_cond_false ((fr_eval rfl).trans k10_20) ?_
 refine wp_skip ?_
 refine ibn ?_
 refine hK14 _ _ ?_
 refine ry 2 [(32, 0), (13, 1)] [[], [0]] (rel [iI 2, iI 2])
  ⟨fun f s W c d h j k a => opv rfl rfl (by simp [go_sem, a.e 13 ((j 1 13 rfl rfl).trans k10_13), IntWalk.i64_in (2) (by omega)]) rfl,
  fun f s W c d h j k a => opm (a.v 32 (d 0 rfl)), trivial⟩ ?_
 intro f11 s11 W11 hB11 g11 hg11 z11
 refine wpe ?_
 have k11_12 := kt hg11 12 (kt hg10 12 (kt hg9 12 (kt hg8 12 k7_12)))
 have k11_13 := kt hg11 13 (hB11.is 1)
 refine then_normal ?_
 rw [rounds_succ]
 refine rw_ 1 [(14, 0)] [[]] (rel [iB true])
  ⟨fun f s W c d h j k a => opv rfl rfl (by simp [go_sem, a.e 13 k11_13, a.e 12 k11_12]) rfl, trivial⟩ ?_
 intro f12 s12 W12 hB12 g12 hg12 z12
 have fB12 := hB12.f (hB11.f (hB10.f (hB9.f fB8)))
 have k12_11 := kt hg12 11 (kt hg11 11 (kt hg10 11 (kt hg9 11 k8_11)))
 have k12_13 := kt hg12 13 k11_13
 have k12_14 := kt hg12 14 (hB12.is 0)
 refine wp_seq_k fun K19 hK19 => ?_
 refine wp_cond_true ((fr_eval rfl).trans k12_14) ?_
 refine wp_skip ?_
 refine hK19 _ _ ?_
 refine wp_seq_k fun K21 hK21 => ?_
 refine wp_block ?_
 refine rw_ 5 [(15, 0), (16, 1), (17, 2), (5, 3), (6, 4)] [[], [], [1], [0], [2]] (rel [iI 2, is (.pointer (some ⟨tx, ux + 2, none⟩)), iI ((pa2 : Int)), iI 2, iI ((pa2 : Int))])
  ⟨fun f s W c d h j k a => opm (a.v 13 k12_13),
  fun f s W c d h j k a => opv rfl rfl (by simp [go_sem, a.e 11 k12_11, a.e 13 k12_13]) rfl,
  fun f s W c d h j k a => by have l := bwt fB12 c; have cu : W.cell? ⟨tx, ux + 2, none⟩ = some (.int .i64 (pa2 : Int)) := ii_cell (hX.below l (Nat.le_refl _)) 2 (by simp); exact opv rfl rfl (by simp [go_sem, a.e 16 (d 1 rfl), cu]) rfl,
  fun f s W c d h j k a => opm (a.v 15 (d 0 rfl)),
  fun f s W c d h j k a => opm (a.v 17 (d 2 rfl)), trivial⟩ ?_
 intro f13 s13 W13 hB13 g13 hg13 z13
 have k13_5 := kt hg13 5 (hB13.is 3)
 refine rw_ 3 [(18, 0), (19, 1), (20, 2)] [[], [0], [1]] (rel [iI 2, iI 0, iB true])
  ⟨fun f s W c d h j k a => opm (a.v 5 k13_5),
  fun f s W c d h j k a => by have qw_ := IntWalk.i64_in (0) (by decide); exact opv rfl rfl (by simp [go_sem, a.e 18 (d 0 rfl), qw_]) rfl,
  fun f s W c d h j k a => opv rfl rfl (by simp [go_sem, a.e 19 (d 1 rfl)]) rfl, trivial⟩ ?_
 intro f14 s14 W14 hB14 g14 hg14 z14
 have fB14 := hB14.f (hB13.f fB12)
 have b14_0 := hB14.b (hB13.b (hB12.b (hB11.b (hB10.b (hB9.b (hB8.b (hB7.b (hB6.b b5_0))))))))
 have k14_1 := kt hg14 1 (kt hg13 1 (kt hg12 1 (kt hg11 1 (kt hg10 1 (kt hg9 1 (kt hg8 1 (kt hg7 1 (kt hg6 1 k5_1))))))))
 have k14_2 := kt hg14 2 (kt hg13 2 (kt hg12 2 (kt hg11 2 (kt hg10 2 (kt hg9 2 (kt hg8 2 (kt hg7 2 (kt hg6 2 k5_2))))))))
 have k14_4 := kt hg14 4 (kt hg13 4 (kt hg12 4 (kt hg11 4 (kt hg10 4 (kt hg9 4 (kt hg8 4 (kt hg7 4 (kt hg6 4 (hB6.is 11)))))))))
 have k14_6 := kt hg14 6 (kt hg13 6 (hB13.is 4))
 have k14_20 := kt hg14 20 (hB14.is 2)
 refine wp_cond_true ((fr_eval rfl).trans k14_20) ?_
 refine ry 12 [(21, 0), (22, 1), (23, 2), (24, 3), (25, 4), (26, 5), (27, 6), (28, 7), (29, 8), (30, 9), (31, 10), (4, 11)] [[], [], [], [2], [3], [], [4, 5], [6], [7], [1, 8], [0, 9], [0, 10]] (rel [iI PA0.t2, is (.func (.func 57) #[] #[]), is (.pointer (some ⟨(s1 0), 2, none⟩)), is (.pointer (some ⟨(s1 0), 2, none⟩)), is (.slice (some ⟨bp, oP, none⟩) np cp), iI ((pa2 : Int)), is (.pointer (some ⟨bp, oP + pa2 * 8, none⟩)), is (.pointer (some ⟨bp, oP + pa2 * 8 + 2, none⟩)), is (.agg #[.int .i64 PA2.t1, .int .i64 PA2.t2]), iI PA2.t2, iI (PA0.t2 + PA2.t2), iI (PA0.t2 + PA2.t2)])
  ⟨fun f s W c d h j k a => opm (a.v 4 ((j 11 4 rfl rfl).trans k14_4)),
  fun f s W c d h j k a => opm (a.v 1 k14_1),
  fun f s W c d h j k a => opv rfl rfl (by simp [go_sem, a.e 2 k14_2]) rfl,
  fun f s W c d h j k a => opv rfl rfl (by simp [go_sem, a.e 23 (d 2 rfl)]) rfl,
  fun f s W c d h j k a => opv rfl rfl (by simp [go_sem, a.e 24 (d 3 rfl), cb b14_0 c 2]) rfl,
  fun f s W c d h j k a => opm (a.v 6 k14_6),
  fun f s W c d h j k a => by have li_ := Nat.not_le.2 hpa2; have lz_ : (pa2 : Int) < (np : Int) := (by omega); exact opv rfl rfl (by simp [go_sem, a.e 25 (d 4 rfl), a.e 26 (d 5 rfl), li_, hpa2, lz_]) rfl,
  fun f s W c d h j k a => opv rfl rfl (by simp [go_sem, a.e 27 (d 6 rfl)]) rfl,
  fun f s W c d h j k a => by have l := bwt fB14 c; have E_ := (hP.below l).2 pa2 hpa2; rw [epa2] at E_; obtain ⟨u0_, u1_, u2_, u3_, u4_, u5_, u6_, u7_⟩ := E_; have v0_ : W.cell? ⟨bp, oP + pa2 * 8 + 2, none⟩ = some (.int .i64 PA2.t1) := u2_; have v1_ : W.cell? ⟨bp, oP + pa2 * 8 + 2 + 1, none⟩ = some (.int .i64 PA2.t2) := u3_; exact opv rfl rfl (by simp [go_sem, a.e 28 (d 7 rfl), v0_, v1_]) rfl,
  fun f s W c d h j k a => opc rfl rfl (by simp [go_sem, a.e 29 (d 8 rfl), a.e 22 (d 1 rfl)]) (high_ok (PA2.t1) (PA2.t2) W),
  fun f s W c d h j k a => opv rfl rfl (by simp [go_sem, a.e 21 (d 0 rfl), a.e 30 (d 9 rfl), IntWalk.i64_in (PA0.t2 + PA2.t2) (by omega)]) rfl,
  fun f s W c d h j k a => opm (a.v 31 (d 10 rfl)), trivial⟩ ?_
 intro f15 s15 W15 hB15 g15 hg15 z15
 refine wpe ?_
 have k15_13 := kt hg15 13 (kt hg14 13 (kt hg13 13 k12_13))
 refine ibn ?_
 refine hK21 _ _ ?_
 refine ry 2 [(32, 0), (13, 1)] [[], [0]] (rel [iI 3, iI 3])
  ⟨fun f s W c d h j k a => opv rfl rfl (by simp [go_sem, a.e 13 ((j 1 13 rfl rfl).trans k15_13), IntWalk.i64_in (3) (by omega)]) rfl,
  fun f s W c d h j k a => opm (a.v 32 (d 0 rfl)), trivial⟩ ?_
 intro f16 s16 W16 hB16 g16 hg16 z16
 refine wpe ?_
 have k16_12 := kt hg16 12 (kt hg15 12 (kt hg14 12 (kt hg13 12 (kt hg12 12 k11_12))))
 have k16_13 := kt hg16 13 (hB16.is 1)
 refine then_normal ?_
 rw [rounds_succ]
 refine rw_ 1 [(14, 0)] [[]] (rel [iB true])
  ⟨fun f s W c d h j k a => opv rfl rfl (by simp [go_sem, a.e 13 k16_13, a.e 12 k16_12]) rfl, trivial⟩ ?_
 intro f17 s17 W17 hB17 g17 hg17 z17
 have fB17 := hB17.f (hB16.f (hB15.f fB14))
 have k17_11 := kt hg17 11 (kt hg16 11 (kt hg15 11 (kt hg14 11 (kt hg13 11 k12_11))))
 have k17_13 := kt hg17 13 k16_13
 have k17_14 := kt hg17 14 (hB17.is 0)
 refine wp_seq_k fun K26 hK26 => ?_
 refine wp_cond_true ((fr_eval rfl).trans k17_14) ?_
 refine wp_skip ?_
 refine hK26 _ _ ?_
 refine wp_seq_k fun K28 hK28 => ?_
 refine wp_block ?_
 refine rw_ 5 [(15, 0), (16, 1), (17, 2), (5, 3), (6, 4)] [[], [], [1], [0], [2]] (rel [iI 3, is (.pointer (some ⟨tx, ux + 3, none⟩)), iI ((pa3 : Int)), iI 3, iI ((pa3 : Int))])
  ⟨fun f s W c d h j k a => opm (a.v 13 k17_13),
  fun f s W c d h j k a => opv rfl rfl (by simp [go_sem, a.e 11 k17_11, a.e 13 k17_13]) rfl,
  fun f s W c d h j k a => by have l := bwt fB17 c; have cu : W.cell? ⟨tx, ux + 3, none⟩ = some (.int .i64 (pa3 : Int)) := ii_cell (hX.below l (Nat.le_refl _)) 3 (by simp); exact opv rfl rfl (by simp [go_sem, a.e 16 (d 1 rfl), cu]) rfl,
  fun f s W c d h j k a => opm (a.v 15 (d 0 rfl)),
  fun f s W c d h j k a => opm (a.v 17 (d 2 rfl)), trivial⟩ ?_
 intro f18 s18 W18 hB18 g18 hg18 z18
 have k18_5 := kt hg18 5 (hB18.is 3)
 refine rw_ 3 [(18, 0), (19, 1), (20, 2)] [[], [0], [1]] (rel [iI 3, iI 1, iB false])
  ⟨fun f s W c d h j k a => opm (a.v 5 k18_5),
  fun f s W c d h j k a => by have qw_ := IntWalk.i64_in (1) (by decide); exact opv rfl rfl (by simp [go_sem, a.e 18 (d 0 rfl), qw_]) rfl,
  fun f s W c d h j k a => opv rfl rfl (by simp [go_sem, a.e 19 (d 1 rfl)]) rfl, trivial⟩ ?_
 intro f19 s19 W19 hB19 g19 hg19 z19
 have k19_13 := kt hg19 13 (kt hg18 13 k17_13)
 have k19_20 := kt hg19 20 (hB19.is 2)
 refine wp_cond_false ((fr_eval rfl).trans k19_20) ?_
 refine wp_skip ?_
 refine ibn ?_
 refine hK28 _ _ ?_
 refine ry 2 [(32, 0), (13, 1)] [[], [0]] (rel [iI 4, iI 4])
  ⟨fun f s W c d h j k a => opv rfl rfl (by simp [go_sem, a.e 13 ((j 1 13 rfl rfl).trans k19_13), IntWalk.i64_in (4) (by omega)]) rfl,
  fun f s W c d h j k a => opm (a.v 32 (d 0 rfl)), trivial⟩ ?_
 intro f20 s20 W20 hB20 g20 hg20 z20
 refine wpe ?_
 have k20_12 := kt hg20 12 (kt hg19 12 (kt hg18 12 (kt hg17 12 k16_12)))
 have k20_13 := kt hg20 13 (hB20.is 1)
 refine then_normal ?_
 rw [rounds_succ]
 refine rw_ 1 [(14, 0)] [[]] (rel [iB true])
  ⟨fun f s W c d h j k a => opv rfl rfl (by simp [go_sem, a.e 13 k20_13, a.e 12 k20_12]) rfl, trivial⟩ ?_
 intro f21 s21 W21 hB21 g21 hg21 z21
 have fB21 := hB21.f (hB20.f (hB19.f (hB18.f fB17)))
 have k21_11 := kt hg21 11 (kt hg20 11 (kt hg19 11 (kt hg18 11 k17_11)))
 have k21_13 := kt hg21 13 k20_13
 have k21_14 := kt hg21 14 (hB21.is 0)
 refine wp_seq_k fun K33 hK33 => ?_
 refine wp_cond_true ((fr_eval rfl).trans k21_14) ?_
 refine wp_skip ?_
 refine hK33 _ _ ?_
 refine wp_seq_k fun K35 hK35 => ?_
 refine wp_block ?_
 refine rw_ 5 [(15, 0), (16, 1), (17, 2), (5, 3), (6, 4)] [[], [], [1], [0], [2]] (rel [iI 4, is (.pointer (some ⟨tx, ux + 4, none⟩)), iI ((pa4 : Int)), iI 4, iI ((pa4 : Int))])
  ⟨fun f s W c d h j k a => opm (a.v 13 k21_13),
  fun f s W c d h j k a => opv rfl rfl (by simp [go_sem, a.e 11 k21_11, a.e 13 k21_13]) rfl,
  fun f s W c d h j k a => by have l := bwt fB21 c; have cu : W.cell? ⟨tx, ux + 4, none⟩ = some (.int .i64 (pa4 : Int)) := ii_cell (hX.below l (Nat.le_refl _)) 4 (by simp); exact opv rfl rfl (by simp [go_sem, a.e 16 (d 1 rfl), cu]) rfl,
  fun f s W c d h j k a => opm (a.v 15 (d 0 rfl)),
  fun f s W c d h j k a => opm (a.v 17 (d 2 rfl)), trivial⟩ ?_
 intro f22 s22 W22 hB22 g22 hg22 z22
 have k22_5 := kt hg22 5 (hB22.is 3)
 refine rw_ 3 [(18, 0), (19, 1), (20, 2)] [[], [0], [1]] (rel [iI 4, iI 0, iB true])
  ⟨fun f s W c d h j k a => opm (a.v 5 k22_5),
  fun f s W c d h j k a => by have qw_ := IntWalk.i64_in (0) (by decide); exact opv rfl rfl (by simp [go_sem, a.e 18 (d 0 rfl), qw_]) rfl,
  fun f s W c d h j k a => opv rfl rfl (by simp [go_sem, a.e 19 (d 1 rfl)]) rfl, trivial⟩ ?_
 intro f23 s23 W23 hB23 g23 hg23 z23
 have fB23 := hB23.f (hB22.f fB21)
 have b23_0 := hB23.b (hB22.b (hB21.b (hB20.b (hB19.b (hB18.b (hB17.b (hB16.b (hB15.b b14_0))))))))
 have k23_1 := kt hg23 1 (kt hg22 1 (kt hg21 1 (kt hg20 1 (kt hg19 1 (kt hg18 1 (kt hg17 1 (kt hg16 1 (kt hg15 1 k14_1))))))))
 have k23_2 := kt hg23 2 (kt hg22 2 (kt hg21 2 (kt hg20 2 (kt hg19 2 (kt hg18 2 (kt hg17 2 (kt hg16 2 (kt hg15 2 k14_2))))))))
 have k23_4 := kt hg23 4 (kt hg22 4 (kt hg21 4 (kt hg20 4 (kt hg19 4 (kt hg18 4 (kt hg17 4 (kt hg16 4 (kt hg15 4 (hB15.is 11)))))))))
 have k23_6 := kt hg23 6 (kt hg22 6 (hB22.is 4))
 have k23_20 := kt hg23 20 (hB23.is 2)
 refine wp_cond_true ((fr_eval rfl).trans k23_20) ?_
 refine ry 12 [(21, 0), (22, 1), (23, 2), (24, 3), (25, 4), (26, 5), (27, 6), (28, 7), (29, 8), (30, 9), (31, 10), (4, 11)] [[], [], [], [2], [3], [], [4, 5], [6], [7], [1, 8], [0, 9], [0, 10]] (rel [iI (PA0.t2 + PA2.t2), is (.func (.func 57) #[] #[]), is (.pointer (some ⟨(s1 0), 2, none⟩)), is (.pointer (some ⟨(s1 0), 2, none⟩)), is (.slice (some ⟨bp, oP, none⟩) np cp), iI ((pa4 : Int)), is (.pointer (some ⟨bp, oP + pa4 * 8, none⟩)), is (.pointer (some ⟨bp, oP + pa4 * 8 + 2, none⟩)), is (.agg #[.int .i64 PA4.t1, .int .i64 PA4.t2]), iI PA4.t2, iI ((PA0.t2 + PA2.t2) + PA4.t2), iI ((PA0.t2 + PA2.t2) + PA4.t2)])
  ⟨fun f s W c d h j k a => opm (a.v 4 ((j 11 4 rfl rfl).trans k23_4)),
  fun f s W c d h j k a => opm (a.v 1 k23_1),
  fun f s W c d h j k a => opv rfl rfl (by simp [go_sem, a.e 2 k23_2]) rfl,
  fun f s W c d h j k a => opv rfl rfl (by simp [go_sem, a.e 23 (d 2 rfl)]) rfl,
  fun f s W c d h j k a => opv rfl rfl (by simp [go_sem, a.e 24 (d 3 rfl), cb b23_0 c 2]) rfl,
  fun f s W c d h j k a => opm (a.v 6 k23_6),
  fun f s W c d h j k a => by have li_ := Nat.not_le.2 hpa4; have lz_ : (pa4 : Int) < (np : Int) := (by omega); exact opv rfl rfl (by simp [go_sem, a.e 25 (d 4 rfl), a.e 26 (d 5 rfl), li_, hpa4, lz_]) rfl,
  fun f s W c d h j k a => opv rfl rfl (by simp [go_sem, a.e 27 (d 6 rfl)]) rfl,
  fun f s W c d h j k a => by have l := bwt fB23 c; have E_ := (hP.below l).2 pa4 hpa4; rw [epa4] at E_; obtain ⟨u0_, u1_, u2_, u3_, u4_, u5_, u6_, u7_⟩ := E_; have v0_ : W.cell? ⟨bp, oP + pa4 * 8 + 2, none⟩ = some (.int .i64 PA4.t1) := u2_; have v1_ : W.cell? ⟨bp, oP + pa4 * 8 + 2 + 1, none⟩ = some (.int .i64 PA4.t2) := u3_; exact opv rfl rfl (by simp [go_sem, a.e 28 (d 7 rfl), v0_, v1_]) rfl,
  fun f s W c d h j k a => opc rfl rfl (by simp [go_sem, a.e 29 (d 8 rfl), a.e 22 (d 1 rfl)]) (high_ok (PA4.t1) (PA4.t2) W),
  fun f s W c d h j k a => opv rfl rfl (by simp [go_sem, a.e 21 (d 0 rfl), a.e 30 (d 9 rfl), IntWalk.i64_in ((PA0.t2 + PA2.t2) + PA4.t2) (by omega)]) rfl,
  fun f s W c d h j k a => opm (a.v 31 (d 10 rfl)), trivial⟩ ?_
 intro f24 s24 W24 hB24 g24 hg24 z24
 refine wpe ?_
 have k24_13 := kt hg24 13 (kt hg23 13 (kt hg22 13 k21_13))
 refine ibn ?_
 refine hK35 _ _ ?_
 refine ry 2 [(32, 0), (13, 1)] [[], [0]] (rel [iI 5, iI 5])
  ⟨fun f s W c d h j k a => opv rfl rfl (by simp [go_sem, a.e 13 ((j 1 13 rfl rfl).trans k24_13), IntWalk.i64_in (5) (by omega)]) rfl,
  fun f s W c d h j k a => opm (a.v 32 (d 0 rfl)), trivial⟩ ?_
 intro f25 s25 W25 hB25 g25 hg25 z25
 refine wpe ?_
 have k25_12 := kt hg25 12 (kt hg24 12 (kt hg23 12 (kt hg22 12 (kt hg21 12 k20_12))))
 have k25_13 := kt hg25 13 (hB25.is 1)
 refine then_normal ?_
 rw [rounds_succ]
 refine rw_ 1 [(14, 0)] [[]] (rel [iB false])
  ⟨fun f s W c d h j k a => opv rfl rfl (by simp [go_sem, a.e 13 k25_13, a.e 12 k25_12]) rfl, trivial⟩ ?_
 intro f26 s26 W26 hB26 g26 hg26 z26
 have b26_0 := hB26.b (hB25.b (hB24.b b23_0))
 have k26_2 := kt hg26 2 (kt hg25 2 (kt hg24 2 k23_2))
 have k26_14 := kt hg26 14 (hB26.is 0)
 refine wp_seq_k fun K40 hK40 => ?_
 refine wp_cond_false ((fr_eval rfl).trans k26_14) ?_
 refine wp_exit ?_
 refine then_exit ?_
 refine then_exit ?_
 refine inBlock_at ?_
 refine hK2 _ _ ?_
 refine wp_seq_k fun K42 hK42 => ?_
 refine rw_ 5 [(33, 0), (34, 1), (35, 2), (36, 3), (37, 4)] [[], [0], [1], [2], []] (rel [is (.pointer (some ⟨(s1 0), 0, none⟩)), is (.pointer (some ⟨(s1 0), 1, none⟩)), is (.slice (some ⟨tf, uf, none⟩) 2 cf), iI 2, iI 0])
  ⟨fun f s W c d h j k a => opv rfl rfl (by simp [go_sem, a.e 2 k26_2]) rfl,
  fun f s W c d h j k a => opv rfl rfl (by simp [go_sem, a.e 33 (d 0 rfl)]) rfl,
  fun f s W c d h j k a => opv rfl rfl (by simp [go_sem, a.e 34 (d 1 rfl), cb b26_0 c 1]) rfl,
  fun f s W c d h j k a => opv rfl rfl (by simp [go_sem, a.e 35 (d 2 rfl)]) rfl,
  fun f s W c d h j k a => opz, trivial⟩ ?_
 intro f27 s27 W27 hB27 g27 hg27 z27
 have k27_36 := kt hg27 36 (hB27.is 3)
 have k27_37 := kt hg27 37 (hB27.is 4)
 refine wp_block ?_
 refine wp_loop_rounds 3 ?_
 rw [rounds_succ]
 refine rw_ 1 [(38, 0)] [[]] (rel [iB true])
  ⟨fun f s W c d h j k a => opv rfl rfl (by simp [go_sem, a.e 37 k27_37, a.e 36 k27_36]) rfl, trivial⟩ ?_
 intro f28 s28 W28 hB28 g28 hg28 z28
 have fB28 := hB28.f (hB27.f (hB26.f (hB25.f (hB24.f fB23))))
 have k28_35 := kt hg28 35 (kt hg27 35 (hB27.is 2))
 have k28_37 := kt hg28 37 k27_37
 have k28_38 := kt hg28 38 (hB28.is 0)
 refine wp_seq_k fun K45 hK45 => ?_
 refine wp_cond_true ((fr_eval rfl).trans k28_38) ?_
 refine wp_skip ?_
 refine hK45 _ _ ?_
 refine wp_seq_k fun K47 hK47 => ?_
 refine wp_block ?_
 refine rw_ 3 [(39, 0), (40, 1), (8, 2)] [[], [0], [1]] (rel [is (.pointer (some ⟨tf, uf, none⟩)), iI ((fa0 : Int)), iI ((fa0 : Int))])
  ⟨fun f s W c d h j k a => opv rfl rfl (by simp [go_sem, a.e 35 k28_35, a.e 37 k28_37]) rfl,
  fun f s W c d h j k a => by have l := bwt fB28 c; have cu : W.cell? ⟨tf, uf, none⟩ = some (.int .i64 (fa0 : Int)) := ii_cell (hF.below l (Nat.le_refl _)) 0 (by simp); exact opv rfl rfl (by simp [go_sem, a.e 39 (d 0 rfl), cu]) rfl,
  fun f s W c d h j k a => opm (a.v 40 (d 1 rfl)), trivial⟩ ?_
 intro f29 s29 W29 hB29 g29 hg29 z29
 have fB29 := hB29.f fB28
 have b29_0 := hB29.b (hB28.b (hB27.b b26_0))
 have k29_1 := kt hg29 1 (kt hg28 1 (kt hg27 1 (kt hg26 1 (kt hg25 1 (kt hg24 1 k23_1)))))
 have k29_2 := kt hg29 2 (kt hg28 2 (kt hg27 2 k26_2))
 have k29_4 := kt hg29 4 (kt hg28 4 (kt hg27 4 (kt hg26 4 (kt hg25 4 (kt hg24 4 (hB24.is 11))))))
 have k29_8 := kt hg29 8 (hB29.is 2)
 refine ry 12 [(41, 0), (42, 1), (43, 2), (44, 3), (45, 4), (46, 5), (47, 6), (48, 7), (49, 8), (50, 9), (51, 10), (4, 11)] [[], [], [], [2], [3], [], [4, 5], [6], [7], [1, 8], [0, 9], [0, 10]] (rel [iI ((PA0.t2 + PA2.t2) + PA4.t2), is (.func (.func 57) #[] #[]), is (.pointer (some ⟨(s1 0), 2, none⟩)), is (.pointer (some ⟨(s1 0), 3, none⟩)), is (.slice (some ⟨bq, oq, none⟩) nq cq), iI ((fa0 : Int)), is (.pointer (some ⟨bq, oq + fa0 * 4, none⟩)), is (.pointer (some ⟨bq, oq + fa0 * 4 + 2, none⟩)), is (.agg #[.int .i64 FA0.h1, .int .i64 FA0.h2]), iI FA0.h2, iI (((PA0.t2 + PA2.t2) + PA4.t2) + FA0.h2), iI (((PA0.t2 + PA2.t2) + PA4.t2) + FA0.h2)])
  ⟨fun f s W c d h j k a => opm (a.v 4 ((j 11 4 rfl rfl).trans k29_4)),
  fun f s W c d h j k a => opm (a.v 1 k29_1),
  fun f s W c d h j k a => opv rfl rfl (by simp [go_sem, a.e 2 k29_2]) rfl,
  fun f s W c d h j k a => opv rfl rfl (by simp [go_sem, a.e 43 (d 2 rfl)]) rfl,
  fun f s W c d h j k a => opv rfl rfl (by simp [go_sem, a.e 44 (d 3 rfl), cb b29_0 c 3]) rfl,
  fun f s W c d h j k a => opm (a.v 8 k29_8),
  fun f s W c d h j k a => by have li_ := Nat.not_le.2 hfa0; have lz_ : (fa0 : Int) < (nq : Int) := (by omega); exact opv rfl rfl (by simp [go_sem, a.e 45 (d 4 rfl), a.e 46 (d 5 rfl), li_, hfa0, lz_]) rfl,
  fun f s W c d h j k a => opv rfl rfl (by simp [go_sem, a.e 47 (d 6 rfl)]) rfl,
  fun f s W c d h j k a => by have l := bwt fB29 c; have E_ := (hQ.below l).2 fa0 hfa0; rw [efa0] at E_; obtain ⟨u0_, u1_, u2_, u3_⟩ := E_; have v0_ : W.cell? ⟨bq, oq + fa0 * 4 + 2, none⟩ = some (.int .i64 FA0.h1) := u2_; have v1_ : W.cell? ⟨bq, oq + fa0 * 4 + 2 + 1, none⟩ = some (.int .i64 FA0.h2) := u3_; exact opv rfl rfl (by simp [go_sem, a.e 48 (d 7 rfl), v0_, v1_]) rfl,
  fun f s W c d h j k a => opc rfl rfl (by simp [go_sem, a.e 49 (d 8 rfl), a.e 42 (d 1 rfl)]) (high_ok (FA0.h1) (FA0.h2) W),
  fun f s W c d h j k a => opv rfl rfl (by simp [go_sem, a.e 41 (d 0 rfl), a.e 50 (d 9 rfl), IntWalk.i64_in (((PA0.t2 + PA2.t2) + PA4.t2) + FA0.h2) (by omega)]) rfl,
  fun f s W c d h j k a => opm (a.v 51 (d 10 rfl)), trivial⟩ ?_
 intro f30 s30 W30 hB30 g30 hg30 z30
 refine wpe ?_
 have k30_37 := kt hg30 37 (kt hg29 37 k28_37)
 refine ibn ?_
 refine hK47 _ _ ?_
 refine ry 2 [(52, 0), (37, 1)] [[], [0]] (rel [iI 1, iI 1])
  ⟨fun f s W c d h j k a => opv rfl rfl (by simp [go_sem, a.e 37 ((j 1 37 rfl rfl).trans k30_37), IntWalk.i64_in (1) (by omega)]) rfl,
  fun f s W c d h j k a => opm (a.v 52 (d 0 rfl)), trivial⟩ ?_
 intro f31 s31 W31 hB31 g31 hg31 z31
 refine wpe ?_
 have k31_36 := kt hg31 36 (kt hg30 36 (kt hg29 36 (kt hg28 36 k27_36)))
 have k31_37 := kt hg31 37 (hB31.is 1)
 refine then_normal ?_
 rw [rounds_succ]
 refine rw_ 1 [(38, 0)] [[]] (rel [iB true])
  ⟨fun f s W c d h j k a => opv rfl rfl (by simp [go_sem, a.e 37 k31_37, a.e 36 k31_36]) rfl, trivial⟩ ?_
 intro f32 s32 W32 hB32 g32 hg32 z32
 have fB32 := hB32.f (hB31.f (hB30.f fB29))
 have k32_35 := kt hg32 35 (kt hg31 35 (kt hg30 35 (kt hg29 35 k28_35)))
 have k32_37 := kt hg32 37 k31_37
 have k32_38 := kt hg32 38 (hB32.is 0)
 refine wp_seq_k fun K50 hK50 => ?_
 refine wp_cond_true ((fr_eval rfl).trans k32_38) ?_
 refine wp_skip ?_
 refine hK50 _ _ ?_
 refine wp_seq_k fun K52 hK52 => ?_
 refine wp_block ?_
 refine rw_ 3 [(39, 0), (40, 1), (8, 2)] [[], [0], [1]] (rel [is (.pointer (some ⟨tf, uf + 1, none⟩)), iI ((fa1 : Int)), iI ((fa1 : Int))])
  ⟨fun f s W c d h j k a => opv rfl rfl (by simp [go_sem, a.e 35 k32_35, a.e 37 k32_37]) rfl,
  fun f s W c d h j k a => by have l := bwt fB32 c; have cu : W.cell? ⟨tf, uf + 1, none⟩ = some (.int .i64 (fa1 : Int)) := ii_cell (hF.below l (Nat.le_refl _)) 1 (by simp); exact opv rfl rfl (by simp [go_sem, a.e 39 (d 0 rfl), cu]) rfl,
  fun f s W c d h j k a => opm (a.v 40 (d 1 rfl)), trivial⟩ ?_
 intro f33 s33 W33 hB33 g33 hg33 z33
 have fB33 := hB33.f fB32
 have b33_0 := hB33.b (hB32.b (hB31.b (hB30.b b29_0)))
 have k33_1 := kt hg33 1 (kt hg32 1 (kt hg31 1 (kt hg30 1 k29_1)))
 have k33_2 := kt hg33 2 (kt hg32 2 (kt hg31 2 (kt hg30 2 k29_2)))
 have k33_4 := kt hg33 4 (kt hg32 4 (kt hg31 4 (kt hg30 4 (hB30.is 11))))
 have k33_8 := kt hg33 8 (hB33.is 2)
 refine ry 12 [(41, 0), (42, 1), (43, 2), (44, 3), (45, 4), (46, 5), (47, 6), (48, 7), (49, 8), (50, 9), (51, 10), (4, 11)] [[], [], [], [2], [3], [], [4, 5], [6], [7], [1, 8], [0, 9], [0, 10]] (rel [iI (((PA0.t2 + PA2.t2) + PA4.t2) + FA0.h2), is (.func (.func 57) #[] #[]), is (.pointer (some ⟨(s1 0), 2, none⟩)), is (.pointer (some ⟨(s1 0), 3, none⟩)), is (.slice (some ⟨bq, oq, none⟩) nq cq), iI ((fa1 : Int)), is (.pointer (some ⟨bq, oq + fa1 * 4, none⟩)), is (.pointer (some ⟨bq, oq + fa1 * 4 + 2, none⟩)), is (.agg #[.int .i64 FA1.h1, .int .i64 FA1.h2]), iI FA1.h2, iI ((((PA0.t2 + PA2.t2) + PA4.t2) + FA0.h2) + FA1.h2), iI ((((PA0.t2 + PA2.t2) + PA4.t2) + FA0.h2) + FA1.h2)])
  ⟨fun f s W c d h j k a => opm (a.v 4 ((j 11 4 rfl rfl).trans k33_4)),
  fun f s W c d h j k a => opm (a.v 1 k33_1),
  fun f s W c d h j k a => opv rfl rfl (by simp [go_sem, a.e 2 k33_2]) rfl,
  fun f s W c d h j k a => opv rfl rfl (by simp [go_sem, a.e 43 (d 2 rfl)]) rfl,
  fun f s W c d h j k a => opv rfl rfl (by simp [go_sem, a.e 44 (d 3 rfl), cb b33_0 c 3]) rfl,
  fun f s W c d h j k a => opm (a.v 8 k33_8),
  fun f s W c d h j k a => by have li_ := Nat.not_le.2 hfa1; have lz_ : (fa1 : Int) < (nq : Int) := (by omega); exact opv rfl rfl (by simp [go_sem, a.e 45 (d 4 rfl), a.e 46 (d 5 rfl), li_, hfa1, lz_]) rfl,
  fun f s W c d h j k a => opv rfl rfl (by simp [go_sem, a.e 47 (d 6 rfl)]) rfl,
  fun f s W c d h j k a => by have l := bwt fB33 c; have E_ := (hQ.below l).2 fa1 hfa1; rw [efa1] at E_; obtain ⟨u0_, u1_, u2_, u3_⟩ := E_; have v0_ : W.cell? ⟨bq, oq + fa1 * 4 + 2, none⟩ = some (.int .i64 FA1.h1) := u2_; have v1_ : W.cell? ⟨bq, oq + fa1 * 4 + 2 + 1, none⟩ = some (.int .i64 FA1.h2) := u3_; exact opv rfl rfl (by simp [go_sem, a.e 48 (d 7 rfl), v0_, v1_]) rfl,
  fun f s W c d h j k a => opc rfl rfl (by simp [go_sem, a.e 49 (d 8 rfl), a.e 42 (d 1 rfl)]) (high_ok (FA1.h1) (FA1.h2) W),
  fun f s W c d h j k a => opv rfl rfl (by simp [go_sem, a.e 41 (d 0 rfl), a.e 50 (d 9 rfl), IntWalk.i64_in ((((PA0.t2 + PA2.t2) + PA4.t2) + FA0.h2) + FA1.h2) (by omega)]) rfl,
  fun f s W c d h j k a => opm (a.v 51 (d 10 rfl)), trivial⟩ ?_
 intro f34 s34 W34 hB34 g34 hg34 z34
 refine wpe ?_
 have k34_37 := kt hg34 37 (kt hg33 37 k32_37)
 refine ibn ?_
 refine hK52 _ _ ?_
 refine ry 2 [(52, 0), (37, 1)] [[], [0]] (rel [iI 2, iI 2])
  ⟨fun f s W c d h j k a => opv rfl rfl (by simp [go_sem, a.e 37 ((j 1 37 rfl rfl).trans k34_37), IntWalk.i64_in (2) (by omega)]) rfl,
  fun f s W c d h j k a => opm (a.v 52 (d 0 rfl)), trivial⟩ ?_
 intro f35 s35 W35 hB35 g35 hg35 z35
 refine wpe ?_
 have k35_36 := kt hg35 36 (kt hg34 36 (kt hg33 36 (kt hg32 36 k31_36)))
 have k35_37 := kt hg35 37 (hB35.is 1)
 refine then_normal ?_
 rw [rounds_succ]
 refine rw_ 1 [(38, 0)] [[]] (rel [iB false])
  ⟨fun f s W c d h j k a => opv rfl rfl (by simp [go_sem, a.e 37 k35_37, a.e 36 k35_36]) rfl, trivial⟩ ?_
 intro f36 s36 W36 hB36 g36 hg36 z36
 have k36_4 := kt hg36 4 (kt hg35 4 (kt hg34 4 (hB34.is 11)))
 have k36_38 := kt hg36 38 (hB36.is 0)
 refine wp_seq_k fun K55 hK55 => ?_
 refine wp_cond_false ((fr_eval rfl).trans k36_38) ?_
 refine wp_exit ?_
 refine then_exit ?_
 refine then_exit ?_
 refine inBlock_at ?_
 refine hK42 _ _ ?_
 refine rw_ 2 [(53, 0), (4, 1)] [[], [0]] (rel [iI ((((PA0.t2 + PA2.t2) + PA4.t2) + FA0.h2) + FA1.h2), iI ((((PA0.t2 + PA2.t2) + PA4.t2) + FA0.h2) + FA1.h2)])
  ⟨fun f s W c d h j k a => opm (a.v 4 ((j 1 4 rfl rfl).trans k36_4)),
  fun f s W c d h j k a => opm (a.v 53 (d 0 rfl)), trivial⟩ ?_
 intro f37 s37 W37 hB37 g37 hg37 z37
 have fB37 := hB37.f (hB36.f (hB35.f (hB34.f fB33)))
 have k37_4 := kt hg37 4 (hB37.is 1)
 refine wp_ret ?_
 refine leave_one (N := 54) (.inr rfl) Try.results59 rfl k37_4 ?_
 exact ⟨rfl, fB37⟩
end Go.Proofs.Ytolnpbpeifpbjaa
