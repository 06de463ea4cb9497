/- Part of the proof: what the claim leans on. -/
import Derived.Test.YtolnpbpeifpbjaaVAU
import Derived.Test.YtolnpbpeifpbjaaVAX
import Derived.Test.YtolnpbpeifpbjaaVAV
import Derived.Test.YtolnpbpeifpbjaaVAD
import Derived.Test.YtolnpbpeifpbjaaVAM
set_option maxHeartbeats 8000000
set_option maxRecDepth 100000
set_option linter.unusedSimpArgs false
set_option linter.unusedVariables false
namespace Go.Proofs.Ytolnpbpeifpbjaa
open Go.RowKit
theorem strongP (p : Pa) (w : World) :
  Calls Try.prog 84 #[.agg #[.int .i64 p.kind, .int .i64 p.weight, .int .i64 p.t1, .int .i64 p.t2, .int .i64 p.m1, .int .i64 p.m2, .int .i64 p.price, .int .i64 p.strong]] w (fun e w' => e = .returned (.int .i64 p.strong) ∧ Below w.heap.size w w') := by
 refine calls_fr Try.func84 Try.ntmps84 rfl rfl fun g hg => ?_
 have k0 : g 0 = .agg #[.int .i64 p.kind, .int .i64 p.weight, .int .i64 p.t1, .int .i64 p.t2, .int .i64 p.m1, .int .i64 p.m2, .int .i64 p.price, .int .i64 p.strong] := hg 0
 clear hg
 have fB0 : Below w.heap.size w w := Below.refl _ _
 refine rw_ 2 [(1, 0), (2, 1)] [[], []] (rel [bx 0 #[.int .i64 p.kind, .int .i64 p.weight, .int .i64 p.t1, .int .i64 p.t2, .int .i64 p.m1, .int .i64 p.m2, .int .i64 p.price, .int .i64 p.strong] 103, iI 0])
  ⟨fun f s W c d h i j a => opb rfl rfl (by simp [go_sem, a.e 0 k0]),
  fun f s W c d h i j a => opz, trivial⟩ ?_
 intro f1 s1 W1 hB1 g1 hg1 z1
 obtain ⟨r1_0, br1_0⟩ := hB1.is 0
 have lr1_0 := hB1.lr 0 br1_0
 have k1_1 := kt hg1 1 r1_0
 refine rw_ 3 [(3, 0), (4, 1), (2, 2)] [[], [0], [1]] (rel [is (.pointer (some ⟨(s1 0), 7, none⟩)), iI p.strong, iI p.strong])
  ⟨fun f s W c d h i j a => opv rfl rfl (by simp [go_sem, a.e 1 k1_1]) rfl,
  fun f s W c d h i j a => opv rfl rfl (by simp [go_sem, a.e 3 (d 0 rfl), cb br1_0 c 7]) rfl,
  fun f s W c d h i j a => opm (a.v 4 (d 1 rfl)), trivial⟩ ?_
 intro f2 s2 W2 hB2 g2 hg2 z2
 have fB2 := hB2.f (hB1.f fB0)
 have k2_2 := kt hg2 2 (hB2.is 2)
 refine wp_ret ?_
 refine leave_one (N := 5) (.inr rfl) Try.results84 rfl k2_2 ?_
 exact ⟨rfl, fB2⟩
theorem strength_1 (ps : Nat → Pa) (qs : Nat → Fu) (bp oP np cp bq oq nq cq : Nat) (tx ux cx tf uf cf pa0 pa1 pa2 fa0 : Nat) (PA0 PA1 PA2 : Pa) (FA0 : Fu) (qv0 : Int) (oo : Nat → Int) (w : World) (hP : PaR w bp oP np ps) (hQ : FuR w bq oq nq qs) (hpi : ∀ i, i < np → PaIn (ps i)) (hqi : ∀ i, i < nq → FuIn (qs i)) (np1 : 1 ≤ np) (np8 : np ≤ 8) (nq1 : 1 ≤ nq) (nq4 : nq ≤ 4) (hX : Ii w (some ⟨tx, ux, none⟩) 3 cx [(pa0 : Int), (pa1 : Int), (pa2 : Int)]) (hF : Ii w (some ⟨tf, uf, none⟩) 1 cf [(fa0 : Int)]) (hpa0 : pa0 < np) (epa0 : ps pa0 = PA0) (hpa1 : pa1 < np) (epa1 : ps pa1 = PA1) (hpa2 : pa2 < np) (epa2 : ps pa2 = PA2) (hfa0 : fa0 < nq) (efa0 : qs fa0 = FA0) (hk0 : PA0.kind = 1) (hk1 : PA1.kind = 2) (hk2 : PA2.kind = 1) (hwh : FA0.pitch = (8000 : Int)) (gwh : 0 ≤ (8000 : Int) ∧ (8000 : Int) ≤ 100000000) (gw1 : 0 ≤ FA0.pitch ∧ FA0.pitch ≤ 10000) (hqv0 : (8000 : Int) / FA0.pitch = qv0) (gqv0 : 0 ≤ qv0 ∧ qv0 ≤ 100000000) (gqd0 : 0 ≤ qv0 * FA0.draw ∧ qv0 * FA0.draw ≤ 200000000) (gpi0 : 1000 ≤ FA0.pitch ∧ FA0.pitch ≤ 10000) (hsm : sumS oo (fun i => [(8000 : Int), qv0 * FA0.draw, (8000 : Int)].getD i 0) 3 = 7200000) (hoo : ∀ i, i < 3 → 0 ≤ oo i ∧ oo i ≤ 1200000) (hov0 : PA0.strong = oo 0) (hov1 : PA1.strong = oo 1) (hov2 : PA2.strong = oo 2) :
  Calls Try.prog 60 #[.agg #[.slice (some ⟨tx, ux, none⟩) 3 cx, .slice (some ⟨tf, uf, none⟩) 1 cf, .slice (some ⟨bp, oP, none⟩) np cp, .slice (some ⟨bq, oq, none⟩) nq cq, .int .i64 8000]] w (fun e w' => e = .returned (.int .i64 900) ∧ Below w.heap.size w w') := by
 refine calls_fr Try.func60 Try.ntmps60 rfl rfl fun g hg => ?_
 have k0 : g 0 = .agg #[.slice (some ⟨tx, ux, none⟩) 3 cx, .slice (some ⟨tf, uf, none⟩) 1 cf, .slice (some ⟨bp, oP, none⟩) np cp, .slice (some ⟨bq, oq, none⟩) nq cq, .int .i64 8000] := hg 0
 clear hg
 have fB0 : Below w.heap.size w w := Below.refl _ _
 refine rw_ 2 [(1, 0), (2, 1)] [[], []] (rel [bx 0 #[.slice (some ⟨tx, ux, none⟩) 3 cx, .slice (some ⟨tf, uf, none⟩) 1 cf, .slice (some ⟨bp, oP, none⟩) np cp, .slice (some ⟨bq, oq, none⟩) nq cq, .int .i64 8000] 95, iI 0])
  ⟨fun f s W c d j k l a => opb rfl rfl (by simp [go_sem, a.e 0 k0]),
  fun f s W c d j k l a => opz, trivial⟩ ?_
 intro f1 s1 W1 hB1 g1 hg1 z1
 have fB1 := hB1.f fB0
 obtain ⟨r1_0, br1_0⟩ := hB1.is 0
 have lr1_0 := hB1.lr 0 br1_0
 have k1_1 := kt hg1 1 r1_0
 refine rw_ 6 [(3, 0), (4, 1), (5, 2), (6, 3), (7, 4), (2, 5)] [[], [0], [], [2], [1, 3], [4]] (rel [is (.agg #[.slice (some ⟨tx, ux, none⟩) 3 cx, .slice (some ⟨tf, uf, none⟩) 1 cf, .slice (some ⟨bp, oP, none⟩) np cp, .slice (some ⟨bq, oq, none⟩) nq cq, .int .i64 8000]), iI 7200000, is (.pointer (some ⟨(s1 0), 4, none⟩)), iI 8000, iI 900, iI 900])
  ⟨fun f s W c d j k l a => opl rfl rfl rfl (a.v 1 k1_1) (bwb br1_0 c) Try.underlying95 rfl (by kernel_rfl) rfl,
  fun f s W c d j k l a => by have m := bwt fB1 c; exact opd rfl rfl (by simp [go_sem, a.e 3 (d 0 rfl)]) (sumL_1 ps qs bp oP np cp bq oq nq cq tx ux cx tf uf cf pa0 pa1 pa2 fa0 PA0 PA1 PA2 FA0 8000 qv0 W (hP.below m) (hQ.below m) hpi hqi np1 np8 nq1 nq4 (hX.below m (Nat.le_refl _)) (hF.below m (Nat.le_refl _)) hpa0 epa0 hpa1 epa1 hpa2 epa2 hfa0 efa0 hk0 hk1 hk2 hwh gwh gw1 hqv0 gqv0 gqd0 gpi0 84 #[] (fun xs w => by simp [go_sem]) oo hoo (fun W' hb' => by rw [show (#[.agg #[.int .i64 PA0.kind, .int .i64 PA0.weight, .int .i64 PA0.t1, .int .i64 PA0.t2, .int .i64 PA0.m1, .int .i64 PA0.m2, .int .i64 PA0.price, .int .i64 PA0.strong]] ++ #[] : Array Value) = #[.agg #[.int .i64 PA0.kind, .int .i64 PA0.weight, .int .i64 PA0.t1, .int .i64 PA0.t2, .int .i64 PA0.m1, .int .i64 PA0.m2, .int .i64 PA0.price, .int .i64 PA0.strong]] from by simp, ← hov0]; exact strongP PA0 W') (fun W' hb' => by rw [show (#[.agg #[.int .i64 PA1.kind, .int .i64 PA1.weight, .int .i64 PA1.t1, .int .i64 PA1.t2, .int .i64 PA1.m1, .int .i64 PA1.m2, .int .i64 PA1.price, .int .i64 PA1.strong]] ++ #[] : Array Value) = #[.agg #[.int .i64 PA1.kind, .int .i64 PA1.weight, .int .i64 PA1.t1, .int .i64 PA1.t2, .int .i64 PA1.m1, .int .i64 PA1.m2, .int .i64 PA1.price, .int .i64 PA1.strong]] from by simp, ← hov1]; exact strongP PA1 W') (fun W' hb' => by rw [show (#[.agg #[.int .i64 PA2.kind, .int .i64 PA2.weight, .int .i64 PA2.t1, .int .i64 PA2.t2, .int .i64 PA2.m1, .int .i64 PA2.m2, .int .i64 PA2.price, .int .i64 PA2.strong]] ++ #[] : Array Value) = #[.agg #[.int .i64 PA2.kind, .int .i64 PA2.weight, .int .i64 PA2.t1, .int .i64 PA2.t2, .int .i64 PA2.m1, .int .i64 PA2.m2, .int .i64 PA2.price, .int .i64 PA2.strong]] from by simp, ← hov2]; exact strongP PA2 W')) ((fun e W' h => by have h1 := h.1; rw [hsm] at h1; exact ⟨_, h1, h.2, rfl⟩)),
  fun f s W c d j k l a => opv rfl rfl (by simp [go_sem, a.e 1 k1_1]) rfl,
  fun f s W c d j k l a => opv rfl rfl (by simp [go_sem, a.e 5 (d 2 rfl), cb br1_0 c 4]) rfl,
  fun f s W c d j k l a => by have qw_ := IntWalk.i64_in (900) (by decide); exact opv rfl rfl (by simp [go_sem, a.e 4 (d 1 rfl), a.e 6 (d 3 rfl), qw_]) rfl,
  fun f s W c d j k l a => opm (a.v 7 (d 4 rfl)), trivial⟩ ?_
 intro f2 s2 W2 hB2 g2 hg2 z2
 have fB2 := hB2.f fB1
 have k2_2 := kt hg2 2 (hB2.is 5)
 refine wp_ret ?_
 refine leave_one (N := 8) (.inr rfl) Try.results60 rfl k2_2 ?_
 exact ⟨rfl, fB2⟩
theorem Strength_1 (ps : Nat → Pa) (qs : Nat → Fu) (bp oP np cp bq oq nq cq : Nat) (tx ux cx tf uf cf pa0 pa1 pa2 fa0 : Nat) (PA0 PA1 PA2 : Pa) (FA0 : Fu) (qv0 : Int) (oo : Nat → Int) (w : World) (hP : PaR w bp oP np ps) (hQ : FuR w bq oq nq qs) (hpi : ∀ i, i < np → PaIn (ps i)) (hqi : ∀ i, i < nq → FuIn (qs i)) (np1 : 1 ≤ np) (np8 : np ≤ 8) (nq1 : 1 ≤ nq) (nq4 : nq ≤ 4) (hX : Ii w (some ⟨tx, ux, none⟩) 3 cx [(pa0 : Int), (pa1 : Int), (pa2 : Int)]) (hF : Ii w (some ⟨tf, uf, none⟩) 1 cf [(fa0 : Int)]) (hpa0 : pa0 < np) (epa0 : ps pa0 = PA0) (hpa1 : pa1 < np) (epa1 : ps pa1 = PA1) (hpa2 : pa2 < np) (epa2 : ps pa2 = PA2) (hfa0 : fa0 < nq) (efa0 : qs fa0 = FA0) (hk0 : PA0.kind = 1) (hk1 : PA1.kind = 2) (hk2 : PA2.kind = 1) (hwh : FA0.pitch = (8000 : Int)) (gwh : 0 ≤ (8000 : Int) ∧ (8000 : Int) ≤ 100000000) (gw1 : 0 ≤ FA0.pitch ∧ FA0.pitch ≤ 10000) (hqv0 : (8000 : Int) / FA0.pitch = qv0) (gqv0 : 0 ≤ qv0 ∧ qv0 ≤ 100000000) (gqd0 : 0 ≤ qv0 * FA0.draw ∧ qv0 * FA0.draw ≤ 200000000) (gpi0 : 1000 ≤ FA0.pitch ∧ FA0.pitch ≤ 10000) (hsm : sumS oo (fun i => [(8000 : Int), qv0 * FA0.draw, (8000 : Int)].getD i 0) 3 = 7200000) (hoo : ∀ i, i < 3 → 0 ≤ oo i ∧ oo i ≤ 1200000) (hov0 : PA0.strong = oo 0) (hov1 : PA1.strong = oo 1) (hov2 : PA2.strong = oo 2) :
  Calls Try.prog 37 #[.agg #[.slice (some ⟨bp, oP, none⟩) np cp, .slice (some ⟨bq, oq, none⟩) nq cq], .agg #[.slice (some ⟨tx, ux, none⟩) 3 cx, .slice (some ⟨tf, uf, none⟩) 1 cf]] w (fun e w' => e = .returned (.tuple #[.int .i64 900, .int .i64 0]) ∧ Below w.heap.size w w') := by
 refine calls_fr Try.func37 Try.ntmps37 rfl rfl fun g hg => ?_
 have k0 : g 0 = .agg #[.slice (some ⟨bp, oP, none⟩) np cp, .slice (some ⟨bq, oq, none⟩) nq cq] := hg 0
 have k1 : g 1 = .agg #[.slice (some ⟨tx, ux, none⟩) 3 cx, .slice (some ⟨tf, uf, none⟩) 1 cf] := hg 1
 clear hg
 have fB0 : Below w.heap.size w w := Below.refl _ _
 refine rw_ 4 [(2, 0), (3, 1), (4, 2), (5, 3)] [[], [], [], []] (rel [bx 0 #[.slice (some ⟨bp, oP, none⟩) np cp, .slice (some ⟨bq, oq, none⟩) nq cq] 68, bx 1 #[.slice (some ⟨tx, ux, none⟩) 3 cx, .slice (some ⟨tf, uf, none⟩) 1 cf] 71, iI 0, iI 0])
  ⟨fun f s W c d h j k a => opb rfl rfl (by simp [go_sem, a.e 0 k0]),
  fun f s W c d h j k a => opb rfl rfl (by simp [go_sem, a.e 1 k1]),
  fun f s W c d h j k a => opz,
  fun f s W c d h j k a => opz, trivial⟩ ?_
 intro f1 s1 W1 hB1 g1 hg1 z1
 have fB1 := hB1.f fB0
 obtain ⟨r1_0, br1_0⟩ := hB1.is 0
 have lr1_0 := hB1.lr 0 br1_0
 obtain ⟨r1_1, br1_1⟩ := hB1.is 1
 have lr1_1 := hB1.lr 1 br1_1
 have ne1_0_1 := hB1.nb 0 1
 have k1_2 := kt hg1 2 r1_0
 have k1_3 := kt hg1 3 r1_1
 refine wp_seq_k fun K2 hK2 => ?_
 refine ry 7 [(9, 0), (10, 1), (11, 2), (8, 3), (12, 4), (13, 5), (6, 6), (7, 8)] [[], [], [0, 1], [2], [3], [3], [], [0, 1, 2, 3, 4, 6], [0, 1, 2, 3, 4, 5, 6, 7]] (rel [is (.agg #[.slice (some ⟨bp, oP, none⟩) np cp, .slice (some ⟨bq, oq, none⟩) nq cq]), is (.agg #[.slice (some ⟨tx, ux, none⟩) 3 cx, .slice (some ⟨tf, uf, none⟩) 1 cf]), is (.tuple #[.agg #[.slice (some ⟨tx, ux, none⟩) 3 cx, .slice (some ⟨tf, uf, none⟩) 1 cf, .slice (some ⟨bp, oP, none⟩) np cp, .slice (some ⟨bq, oq, none⟩) nq cq, .int .i64 8000], .int .i64 0]), is (.tuple #[.agg #[.slice (some ⟨tx, ux, none⟩) 3 cx, .slice (some ⟨tf, uf, none⟩) 1 cf, .slice (some ⟨bp, oP, none⟩) np cp, .slice (some ⟨bq, oq, none⟩) nq cq, .int .i64 8000], .int .i64 0]), is (.agg #[.slice (some ⟨tx, ux, none⟩) 3 cx, .slice (some ⟨tf, uf, none⟩) 1 cf, .slice (some ⟨bp, oP, none⟩) np cp, .slice (some ⟨bq, oq, none⟩) nq cq, .int .i64 8000]), iI 0, bx 6 #[.slice none 0 0, .slice none 0 0, .slice none 0 0, .slice none 0 0, .int .i64 0] 95])
  ⟨fun f s W c d h j k a => opv rfl rfl (by simp [go_sem, a.e 2 k1_2, cb br1_0 c 0, cb br1_0 c 1]) rfl,
  fun f s W c d h j k a => opv rfl rfl (by simp [go_sem, a.e 3 k1_3, cb br1_1 c 0, cb br1_1 c 1]) rfl,
  fun f s W c d h j k a => by have l := bwt fB1 c; exact opc rfl rfl (by simp [go_sem, a.e 9 (d 0 rfl), a.e 10 (d 1 rfl)]) (newSheet_1 ps qs bp oP np cp bq oq nq cq tx ux cx tf uf cf pa0 pa1 pa2 fa0 PA0 PA1 PA2 FA0 8000 W (hP.below l) (hQ.below l) hpi hqi np1 np8 nq1 nq4 (hX.below l (Nat.le_refl _)) (hF.below l (Nat.le_refl _)) hpa0 epa0 hpa1 epa1 hpa2 epa2 hfa0 efa0 hk0 hk1 hk2 hwh gwh gw1),
  fun f s W c d h j k a => opm (a.v 11 (d 2 rfl)),
  fun f s W c d h j k a => opv rfl rfl (by simp [go_sem, a.e 8 (d 3 rfl)]) rfl,
  fun f s W c d h j k a => opv rfl rfl (by simp [go_sem, a.e 8 (d 3 rfl)]) rfl,
  fun f s W c d h j k a => opb rfl rfl (by simp [go_sem]), trivial⟩ ?_
 intro f2 s2 W2 hB2 g2 hg2 z2
 have fB2 := hB2.f fB1
 obtain ⟨r2_6, br2_6⟩ := hB2.is 6
 have lr2_6 := hB2.lr 6 br2_6
 have k2_12 := kt hg2 12 (hB2.is 4)
 have k2_13 := kt hg2 13 (hB2.is 5)
 have k2_6 := kt hg2 6 r2_6
 obtain ⟨W3, hW3⟩ : ∃ W', W' = W2.setRow (s2 6) #[.slice (some ⟨tx, ux, none⟩) 3 cx, .slice (some ⟨tf, uf, none⟩) 1 cf, .slice (some ⟨bp, oP, none⟩) np cp, .slice (some ⟨bq, oq, none⟩) nq cq, .int .i64 8000] := ⟨_, rfl⟩
 refine tsk (o := _) rfl ⟨rfl, rfl⟩ (run_seg hW3 (fr_ev k2_6) (fr_ev k2_12) br2_6 rfl rfl rfl rfl) ?_
 obtain ⟨fB3, nb3, ot3, z3⟩ := sgf hW3 fB2 br2_6 (by omega)
 clear hW3
 refine tail_value (o := _) rfl rfl rfl (v := .int .i64 0) (by simp [go_sem, frv 19 k2_13]) ?_
 generalize hg4 : upd g2 7 (.int .i64 0) = g4
 have k4_7 := kt hg4 7 (upd_same _ _ _)
 refine wpe ?_
 refine hK2 _ _ ?_
 refine wp_seq_k fun K3 hK3 => ?_
 refine rw_ 2 [(14, 0), (15, 1)] [[], [0]] (rel [iI 0, iB false])
  ⟨fun f s W c d h j k a => opm (a.v 7 k4_7),
  fun f s W c d h j k a => opv rfl rfl (by simp [go_sem, a.e 14 (d 0 rfl)]) rfl, trivial⟩ ?_
 intro f5 s5 W5 hB5 g5 hg5 z5
 have fB5 := hB5.f fB3
 have b5_2 := hB5.b nb3
 have k5_6 := kt hg5 6 (ku hg4 6 k2_6)
 have k5_15 := kt hg5 15 (hB5.is 1)
 refine wp_cond_false ((fr_eval rfl).trans k5_15) ?_
 refine wp_skip ?_
 refine hK3 _ _ ?_
 refine rw_ 4 [(17, 0), (18, 1), (4, 2), (5, 3)] [[], [0], [1], []] (rel [is (.agg #[.slice (some ⟨tx, ux, none⟩) 3 cx, .slice (some ⟨tf, uf, none⟩) 1 cf, .slice (some ⟨bp, oP, none⟩) np cp, .slice (some ⟨bq, oq, none⟩) nq cq, .int .i64 8000]), iI 900, iI 900, iI 0])
  ⟨fun f s W c d h j k a => opl rfl rfl rfl (a.v 6 k5_6) (bwb b5_2 c) Try.underlying95 rfl (by kernel_rfl) rfl,
  fun f s W c d h j k a => by have l := bwt fB5 c; exact opc rfl rfl (by simp [go_sem, a.e 17 (d 0 rfl)]) (strength_1 ps qs bp oP np cp bq oq nq cq tx ux cx tf uf cf pa0 pa1 pa2 fa0 PA0 PA1 PA2 FA0 qv0 oo W (hP.below l) (hQ.below l) hpi hqi np1 np8 nq1 nq4 (hX.below l (Nat.le_refl _)) (hF.below l (Nat.le_refl _)) hpa0 epa0 hpa1 epa1 hpa2 epa2 hfa0 efa0 hk0 hk1 hk2 hwh gwh gw1 hqv0 gqv0 gqd0 gpi0 hsm hoo hov0 hov1 hov2),
  fun f s W c d h j k a => opm (a.v 18 (d 1 rfl)),
  fun f s W c d h j k a => opz, trivial⟩ ?_
 intro f6 s6 W6 hB6 g6 hg6 z6
 have fB6 := hB6.f fB5
 have k6_4 := kt hg6 4 (hB6.is 2)
 have k6_5 := kt hg6 5 (hB6.is 3)
 refine wp_ret ?_
 refine leave_gen (v := .tuple #[.int .i64 900, .int .i64 0]) (.inr rfl) (by simp [results, Try.results37, go_sem, frv 19 k6_4, frv 19 k6_5]) ?_
 exact ⟨rfl, fB6⟩
theorem strength_doc (b1 b2 b3 b4 : Nat) (w : World) (h1 : w.heap[b1]? = some (.cells #[.int .i64 1, .int .i64 200, .int .i64 250, .int .i64 270, .int .i64 60, .int .i64 80, .int .i64 400000, .int .i64 300, .int .i64 2, .int .i64 120, .int .i64 180, .int .i64 190, .int .i64 70, .int .i64 90, .int .i64 300000, .int .i64 200] 103 (0, 0))) (h2 : w.heap[b2]? = some (.cells #[.int .i64 8000, .int .i64 12000, .int .i64 3600, .int .i64 3700] 105 (0, 0))) (h3 : w.heap[b3]? = some (.cells #[.int .i64 0, .int .i64 1, .int .i64 0] 3 (0, 0))) (h4 : w.heap[b4]? = some (.cells #[.int .i64 0] 3 (0, 0))) : Calls Try.prog 37 #[.agg #[.slice (some ⟨b1, 0, none⟩) 2 2, .slice (some ⟨b2, 0, none⟩) 1 1], .agg #[.slice (some ⟨b3, 0, none⟩) 3 3, .slice (some ⟨b4, 0, none⟩) 1 1]] w (fun e w' => e = .returned (.tuple #[.int .i64 900, .int .i64 0]) ∧ Below w.heap.size w w') :=
  Strength_1 docP docF b1 0 2 2 b2 0 1 1 b3 0 3 b4 0 1 0 1 0 0 (docP 0) (docP 1) (docP 0) (docF 0) 1 (fun i => [300, 200, 300].getD i 0) w (docP_row h1) (docF_row h2) docP_in docF_in (by decide) (by decide) (by decide) (by decide) (ii_block (xs := [0, 1, 0]) h3 rfl rfl) (ii_block (xs := [0]) h4 rfl rfl) (by decide) rfl (by decide) rfl (by decide) rfl (by decide) rfl rfl rfl rfl rfl ⟨by decide, by decide⟩ ⟨by decide, by decide⟩ (by decide) ⟨by decide, by decide⟩ ⟨by decide, by decide⟩ ⟨by decide, by decide⟩ (by decide) (fun i hi => by match i, hi with | 0, _ => exact ⟨by decide, by decide⟩ | 1, _ => exact ⟨by decide, by decide⟩ | 2, _ => exact ⟨by decide, by decide⟩) rfl rfl rfl
theorem armBoard_yes (w : World) :
  Calls Try.prog 17 #[] w (fun e w' => e = .returned (.bool true) ∧ Below w.heap.size w w') := by
 refine calls_fr Try.func17 Try.ntmps17 rfl rfl fun g hg => ?_
 clear hg
 have fB0 : Below w.heap.size w w := Below.refl _ _
 refine rw_ 1 [(0, 0)] [[]] (rel [iB false])
  ⟨fun f s W i j k l m a => opz, trivial⟩ ?_
 intro f1 s1 W1 hB1 g1 hg1 z1
 refine wp_seq_k fun K2 hK2 => ?_
 refine rz 12 [(8, 0), (9, 1), (10, 2), (11, 3), (12, 4), (13, 5), (14, 6), (15, 7), (16, 8), (17, 9), (18, 10), (1, 11)] [[], [], [0, 1], [], [], [3, 4], [0, 1, 2, 3, 4, 5], [], [7], [7, 8], [0, 1, 2, 3, 4, 5, 6, 7, 8, 9], [], [0, 1, 2, 3, 4, 5, 6, 7, 8, 9, 10, 11]] (rel [is (.agg #[.int .i64 250, .int .i64 270]), is (.agg #[.int .i64 60, .int .i64 80]), is (.agg #[.int .i64 1, .int .i64 200, .int .i64 250, .int .i64 270, .int .i64 60, .int .i64 80, .int .i64 400000, .int .i64 300]), is (.agg #[.int .i64 180, .int .i64 190]), is (.agg #[.int .i64 70, .int .i64 90]), is (.agg #[.int .i64 2, .int .i64 120, .int .i64 180, .int .i64 190, .int .i64 70, .int .i64 90, .int .i64 300000, .int .i64 200]), row 6 2 #[.int .i64 1, .int .i64 200, .int .i64 250, .int .i64 270, .int .i64 60, .int .i64 80, .int .i64 400000, .int .i64 300, .int .i64 2, .int .i64 120, .int .i64 180, .int .i64 190, .int .i64 70, .int .i64 90, .int .i64 300000, .int .i64 200] 103, is (.agg #[.int .i64 3600, .int .i64 3700]), is (.agg #[.int .i64 8000, .int .i64 12000, .int .i64 3600, .int .i64 3700]), row 9 1 #[.int .i64 8000, .int .i64 12000, .int .i64 3600, .int .i64 3700] 105, isS fun s => .agg #[.slice (some ⟨(s 6), 0, none⟩) (2) (2), .slice (some ⟨(s 9), 0, none⟩) (1) (1)], bx 11 #[.slice none 0 0, .slice none 0 0] 68])
  ⟨is_k, is_k, is_k, is_k, is_k, is_k, row_k, is_k, is_k, row_k, isS_k fun s s' e => by rw [e 6 (by simp), e 9 (by simp)], bx_k, trivial⟩
  ⟨fun f s W i j k l m a => opc rfl rfl (by simp [go_sem]) (armSpan_any (250) (270) W),
  fun f s W i j k l m a => opc rfl rfl (by simp [go_sem]) (armSpan_any (60) (80) W),
  fun f s W i j k l m a => opv rfl rfl (by simp [go_sem, a.e 8 (j 0 rfl), a.e 9 (j 1 rfl)]) rfl,
  fun f s W i j k l m a => opc rfl rfl (by simp [go_sem]) (armSpan_any (180) (190) W),
  fun f s W i j k l m a => opc rfl rfl (by simp [go_sem]) (armSpan_any (70) (90) W),
  fun f s W i j k l m a => opv rfl rfl (by simp [go_sem, a.e 11 (j 3 rfl), a.e 12 (j 4 rfl)]) rfl,
  fun f s W i j k l m a => opr rfl rfl (by simp [go_sem, a.e 10 (j 2 rfl), a.e 13 (j 5 rfl)]),
  fun f s W i j k l m a => opc rfl rfl (by simp [go_sem]) (armSpan_any (3600) (3700) W),
  fun f s W i j k l m a => opv rfl rfl (by simp [go_sem, a.e 15 (j 7 rfl)]) rfl,
  fun f s W i j k l m a => opr rfl rfl (by simp [go_sem, a.e 16 (j 8 rfl)]),
  fun f s W i j k l m a => opv rfl rfl (by simp [go_sem, a.e 14 (j 6 rfl).1, a.e 17 (j 9 rfl).1, upd]) rfl,
  fun f s W i j k l m a => opb rfl rfl (by simp [go_sem]), trivial⟩ ?_
 intro f2 s2 W2 hB2 g2 hg2 z2
 have fB2 := hB2.f (hB1.f fB0)
 obtain ⟨r2_6, br2_6⟩ := hB2.is 6
 have lr2_6 := hB2.lr 6 br2_6
 obtain ⟨r2_9, br2_9⟩ := hB2.is 9
 have lr2_9 := hB2.lr 9 br2_9
 obtain ⟨r2_11, br2_11⟩ := hB2.is 11
 have lr2_11 := hB2.lr 11 br2_11
 have ne2_6_9 := hB2.nb 6 9
 have ne2_6_11 := hB2.nb 6 11
 have ne2_9_11 := hB2.nb 9 11
 have k2_18 := kt hg2 18 (hB2.is 10)
 have k2_1 := kt hg2 1 r2_11
 obtain ⟨W3, hW3⟩ : ∃ W', W' = W2.setRow (s2 11) #[.slice (some ⟨(s2 6), 0, none⟩) (2) (2), .slice (some ⟨(s2 9), 0, none⟩) (1) (1)] := ⟨_, rfl⟩
 refine tsk (o := _) rfl ⟨rfl, rfl⟩ (run_seg hW3 (fr_ev k2_1) (fr_ev k2_18) br2_11 rfl rfl rfl rfl) ?_
 obtain ⟨fB3, nb3, ot3, z3⟩ := sgf hW3 fB2 br2_11 (by omega)
 clear hW3
 have b3_0 := ot3 _ _ (by omega) br2_6
 have b3_1 := ot3 _ _ (by omega) br2_9
 refine wpe ?_
 refine hK2 _ _ ?_
 refine wp_seq_k fun K3 hK3 => ?_
 refine rz 4 [(19, 0), (20, 1), (21, 2), (2, 3)] [[], [], [0, 1], [], [0, 1, 2, 3]] (rel [row 0 3 #[.int .i64 0, .int .i64 1, .int .i64 0] 3, row 1 1 #[.int .i64 0] 3, isS fun s => .agg #[.slice (some ⟨(s 0), 0, none⟩) (3) (3), .slice (some ⟨(s 1), 0, none⟩) (1) (1)], bx 3 #[.slice none 0 0, .slice none 0 0] 71])
  ⟨row_k, row_k, isS_k fun s s' e => by rw [e 0 (by simp), e 1 (by simp)], bx_k, trivial⟩
  ⟨fun f s W i j k l m a => opr rfl rfl (by simp [go_sem]),
  fun f s W i j k l m a => opr rfl rfl (by simp [go_sem]),
  fun f s W i j k l m a => opv rfl rfl (by simp [go_sem, a.e 19 (j 0 rfl).1, a.e 20 (j 1 rfl).1, upd]) rfl,
  fun f s W i j k l m a => opb rfl rfl (by simp [go_sem]), trivial⟩ ?_
 intro f4 s4 W4 hB4 g4 hg4 z4
 have fB4 := hB4.f fB3
 have b4_0 := hB4.b b3_0
 have b4_1 := hB4.b b3_1
 have b4_2 := hB4.b nb3
 obtain ⟨r4_0, br4_0⟩ := hB4.is 0
 have lr4_0 := hB4.lr 0 br4_0
 obtain ⟨r4_1, br4_1⟩ := hB4.is 1
 have lr4_1 := hB4.lr 1 br4_1
 obtain ⟨r4_3, br4_3⟩ := hB4.is 3
 have lr4_3 := hB4.lr 3 br4_3
 have ne4_0_1 := hB4.nb 0 1
 have ne4_0_3 := hB4.nb 0 3
 have ne4_1_3 := hB4.nb 1 3
 have k4_1 := kt hg4 1 k2_1
 have k4_21 := kt hg4 21 (hB4.is 2)
 have k4_2 := kt hg4 2 r4_3
 obtain ⟨W5, hW5⟩ : ∃ W', W' = W4.setRow (s4 3) #[.slice (some ⟨(s4 0), 0, none⟩) (3) (3), .slice (some ⟨(s4 1), 0, none⟩) (1) (1)] := ⟨_, rfl⟩
 refine tsk (o := _) rfl ⟨rfl, rfl⟩ (run_seg hW5 (fr_ev k4_2) (fr_ev k4_21) br4_3 rfl rfl rfl rfl) ?_
 obtain ⟨fB5, nb5, ot5, z5⟩ := sgf hW5 fB4 br4_3 (by omega)
 clear hW5
 have b5_0 := ot5 _ _ (by omega) b4_0
 have b5_1 := ot5 _ _ (by omega) b4_1
 have b5_2 := ot5 _ _ (by omega) b4_2
 have b5_3 := ot5 _ _ (by omega) br4_0
 have b5_4 := ot5 _ _ (by omega) br4_1
 refine wpe ?_
 refine hK3 _ _ ?_
 refine wp_seq_k fun K4 hK4 => ?_
 refine ry 9 [(23, 0), (24, 1), (25, 2), (22, 3), (26, 4), (27, 5), (28, 6), (3, 7), (4, 8), (5, 11)] [[], [], [0, 1], [2], [3], [3], [3], [], [], [0, 1, 2, 3, 4, 7, 8], [0, 1, 2, 3, 4, 5, 7, 8, 9], [0, 1, 2, 3, 4, 5, 6, 7, 8, 9, 10]] (rel [is (.agg #[.slice (some ⟨(s2 6), 0, none⟩) (2) (2), .slice (some ⟨(s2 9), 0, none⟩) (1) (1)]), is (.agg #[.slice (some ⟨(s4 0), 0, none⟩) (3) (3), .slice (some ⟨(s4 1), 0, none⟩) (1) (1)]), is (.tuple #[.agg #[.int .i64 616, .int .i64 628], .agg #[.int .i64 4100, .int .i64 4240], .int .i64 0]), is (.tuple #[.agg #[.int .i64 616, .int .i64 628], .agg #[.int .i64 4100, .int .i64 4240], .int .i64 0]), is (.agg #[.int .i64 616, .int .i64 628]), is (.agg #[.int .i64 4100, .int .i64 4240]), iI 0, bx 7 #[.int .i64 0, .int .i64 0] 62, bx 8 #[.int .i64 0, .int .i64 0] 62])
  ⟨fun f s W i j k l m a => opv rfl rfl (by simp [go_sem, a.e 1 k4_1, cb b5_2 i 0, cb b5_2 i 1]) rfl,
  fun f s W i j k l m a => opv rfl rfl (by simp [go_sem, a.e 2 k4_2, cb nb5 i 0, cb nb5 i 1]) rfl,
  fun f s W i j k l m a => opc rfl rfl (by simp [go_sem, a.e 23 (j 0 rfl), a.e 24 (j 1 rfl)]) (measure_doc (s2 6) (s2 9) (s4 0) (s4 1) W (bwb b5_0 i) (bwb b5_1 i) (bwb b5_3 i) (bwb b5_4 i)),
  fun f s W i j k l m a => opm (a.v 25 (j 2 rfl)),
  fun f s W i j k l m a => opv rfl rfl (by simp [go_sem, a.e 22 (j 3 rfl)]) rfl,
  fun f s W i j k l m a => opv rfl rfl (by simp [go_sem, a.e 22 (j 3 rfl)]) rfl,
  fun f s W i j k l m a => opv rfl rfl (by simp [go_sem, a.e 22 (j 3 rfl)]) rfl,
  fun f s W i j k l m a => opb rfl rfl (by simp [go_sem]),
  fun f s W i j k l m a => opb rfl rfl (by simp [go_sem]), trivial⟩ ?_
 intro f6 s6 W6 hB6 g6 hg6 z6
 have fB6 := hB6.f fB5
 have b6_0 := hB6.b b5_0
 have b6_1 := hB6.b b5_1
 have b6_2 := hB6.b b5_2
 have b6_3 := hB6.b b5_3
 have b6_4 := hB6.b b5_4
 have b6_5 := hB6.b nb5
 obtain ⟨r6_7, br6_7⟩ := hB6.is 7
 have lr6_7 := hB6.lr 7 br6_7
 obtain ⟨r6_8, br6_8⟩ := hB6.is 8
 have lr6_8 := hB6.lr 8 br6_8
 have ne6_7_8 := hB6.nb 7 8
 have k6_26 := kt hg6 26 (hB6.is 4)
 have k6_27 := kt hg6 27 (hB6.is 5)
 have k6_28 := kt hg6 28 (hB6.is 6)
 have k6_3 := kt hg6 3 r6_7
 have k6_4 := kt hg6 4 r6_8
 obtain ⟨W7, hW7⟩ : ∃ W', W' = W6.setRow (s6 7) #[.int .i64 616, .int .i64 628] := ⟨_, rfl⟩
 refine tsk (o := _) rfl ⟨rfl, rfl⟩ (run_seg hW7 (fr_ev k6_3) (fr_ev k6_26) br6_7 rfl rfl rfl rfl) ?_
 obtain ⟨fB7, nb7, ot7, z7⟩ := sgf hW7 fB6 br6_7 (by omega)
 clear hW7
 have b7_0 := ot7 _ _ (by omega) b6_0
 have b7_1 := ot7 _ _ (by omega) b6_1
 have b7_2 := ot7 _ _ (by omega) b6_2
 have b7_3 := ot7 _ _ (by omega) b6_3
 have b7_4 := ot7 _ _ (by omega) b6_4
 have b7_5 := ot7 _ _ (by omega) b6_5
 have b7_7 := ot7 _ _ (by omega) br6_8
 obtain ⟨W8, hW8⟩ : ∃ W', W' = W7.setRow (s6 8) #[.int .i64 4100, .int .i64 4240] := ⟨_, rfl⟩
 refine tsk (o := _) rfl ⟨rfl, rfl⟩ (run_seg hW8 (fr_ev k6_4) (fr_ev k6_27) b7_7 rfl rfl rfl rfl) ?_
 obtain ⟨fB8, nb8, ot8, z8⟩ := sgf hW8 fB7 b7_7 (by omega)
 clear hW8
 have b8_0 := ot8 _ _ (by omega) b7_0
 have b8_1 := ot8 _ _ (by omega) b7_1
 have b8_2 := ot8 _ _ (by omega) b7_2
 have b8_3 := ot8 _ _ (by omega) b7_3
 have b8_4 := ot8 _ _ (by omega) b7_4
 have b8_5 := ot8 _ _ (by omega) b7_5
 have b8_6 := ot8 _ _ (by omega) nb7
 refine tail_value (o := _) rfl rfl rfl (v := .int .i64 0) (by simp [go_sem, frv 55 k6_28]) ?_
 generalize hg9 : upd g6 5 (.int .i64 0) = g9
 have k9_1 := ku hg9 1 (kt hg6 1 k4_1)
 have k9_2 := ku hg9 2 (kt hg6 2 k4_2)
 refine wpe ?_
 refine hK4 _ _ ?_
 refine rw_ 8 [(30, 0), (31, 1), (32, 2), (29, 3), (33, 4), (34, 5), (6, 6), (7, 7)] [[], [], [0, 1], [2], [3], [3], [4], [5]] (rel [is (.agg #[.slice (some ⟨(s2 6), 0, none⟩) (2) (2), .slice (some ⟨(s2 9), 0, none⟩) (1) (1)]), is (.agg #[.slice (some ⟨(s4 0), 0, none⟩) (3) (3), .slice (some ⟨(s4 1), 0, none⟩) (1) (1)]), is (.tuple #[.int .i64 900, .int .i64 0]), is (.tuple #[.int .i64 900, .int .i64 0]), iI 900, iI 0, iI 900, iI 0])
  ⟨fun f s W i j k l m a => opv rfl rfl (by simp [go_sem, a.e 1 k9_1, cb b8_2 i 0, cb b8_2 i 1]) rfl,
  fun f s W i j k l m a => opv rfl rfl (by simp [go_sem, a.e 2 k9_2, cb b8_5 i 0, cb b8_5 i 1]) rfl,
  fun f s W i j k l m a => opc rfl rfl (by simp [go_sem, a.e 30 (j 0 rfl), a.e 31 (j 1 rfl)]) (strength_doc (s2 6) (s2 9) (s4 0) (s4 1) W (bwb b8_0 i) (bwb b8_1 i) (bwb b8_3 i) (bwb b8_4 i)),
  fun f s W i j k l m a => opm (a.v 32 (j 2 rfl)),
  fun f s W i j k l m a => opv rfl rfl (by simp [go_sem, a.e 29 (j 3 rfl)]) rfl,
  fun f s W i j k l m a => opv rfl rfl (by simp [go_sem, a.e 29 (j 3 rfl)]) rfl,
  fun f s W i j k l m a => opm (a.v 33 (j 4 rfl)),
  fun f s W i j k l m a => opm (a.v 34 (j 5 rfl)), trivial⟩ ?_
 intro f10 s10 W10 hB10 g10 hg10 z10
 have b10_6 := hB10.b b8_6
 have b10_7 := hB10.b nb8
 have k10_3 := kt hg10 3 (ku hg9 3 k6_3)
 have k10_4 := kt hg10 4 (ku hg9 4 k6_4)
 have k10_5 := kt hg10 5 (kt hg9 5 (upd_same _ _ _))
 have k10_6 := kt hg10 6 (hB10.is 6)
 have k10_7 := kt hg10 7 (hB10.is 7)
 refine rw_ 21 [(35, 0), (36, 1), (37, 2), (38, 3), (39, 4), (40, 5), (41, 6), (42, 7), (43, 8), (44, 9), (45, 10), (46, 11), (47, 12), (48, 13), (49, 14), (50, 15), (51, 16), (52, 17), (53, 18), (54, 19), (0, 20)] [[], [0], [1], [2], [2, 3], [2, 4], [5], [6], [6], [6, 7, 8], [6, 9], [10], [11], [11], [11, 12, 13], [11, 14], [15], [16], [16, 17], [16, 18], [19]] (rel [iI 0, iB true, iB true, iI 0, iB true, iB true, iB true, is (.agg #[.int .i64 616, .int .i64 628]), is (.agg #[.int .i64 616, .int .i64 628]), iB true, iB true, iB true, is (.agg #[.int .i64 4100, .int .i64 4240]), is (.agg #[.int .i64 4100, .int .i64 4240]), iB true, iB true, iB true, iI 900, iB true, iB true, iB true])
  ⟨fun f s W i j k l m a => opm (a.v 5 k10_5),
  fun f s W i j k l m a => opv rfl rfl (by simp [go_sem, a.e 35 (j 0 rfl)]) rfl,
  fun f s W i j k l m a => opm (a.v 36 (j 1 rfl)),
  fun f s W i j k l m a => osure rfl rfl (a.says (d := 37) rfl rfl (j 2 rfl)) (gv (by simp [go_sem, a.e 7 k10_7]) rfl),
  fun f s W i j k l m a => osure rfl rfl (a.says (d := 37) rfl rfl (j 2 rfl)) (gv (by simp [go_sem, a.e 38 (j 3 rfl)]) rfl),
  fun f s W i j k l m a => opk (c := true) rfl rfl (fun h => absurd h (by decide)) (fun _ => by simp [go_sem, a.e 37 (j 2 rfl), a.e 39 (j 4 rfl)]),
  fun f s W i j k l m a => opm (a.v 40 (j 5 rfl)),
  fun f s W i j k l m a => osure rfl rfl (a.says (d := 41) rfl rfl (j 6 rfl)) (gv (by simp [go_sem, a.e 3 k10_3, cb b10_6 i 0, cb b10_6 i 1]) rfl),
  fun f s W i j k l m a => osure rfl rfl (a.says (d := 41) rfl rfl (j 6 rfl)) (gc (by simp [go_sem]) (armSpan_any (616) (628) W)),
  fun f s W i j k l m a => osure rfl rfl (a.says (d := 41) rfl rfl (j 6 rfl)) (gv (by simp [go_sem, a.e 42 (j 7 rfl), a.e 43 (j 8 rfl)]) rfl),
  fun f s W i j k l m a => opk (c := true) rfl rfl (fun h => absurd h (by decide)) (fun _ => by simp [go_sem, a.e 41 (j 6 rfl), a.e 44 (j 9 rfl)]),
  fun f s W i j k l m a => opm (a.v 45 (j 10 rfl)),
  fun f s W i j k l m a => osure rfl rfl (a.says (d := 46) rfl rfl (j 11 rfl)) (gv (by simp [go_sem, a.e 4 k10_4, cb b10_7 i 0, cb b10_7 i 1]) rfl),
  fun f s W i j k l m a => osure rfl rfl (a.says (d := 46) rfl rfl (j 11 rfl)) (gc (by simp [go_sem]) (armSpan_any (4100) (4240) W)),
  fun f s W i j k l m a => osure rfl rfl (a.says (d := 46) rfl rfl (j 11 rfl)) (gv (by simp [go_sem, a.e 47 (j 12 rfl), a.e 48 (j 13 rfl)]) rfl),
  fun f s W i j k l m a => opk (c := true) rfl rfl (fun h => absurd h (by decide)) (fun _ => by simp [go_sem, a.e 46 (j 11 rfl), a.e 49 (j 14 rfl)]),
  fun f s W i j k l m a => opm (a.v 50 (j 15 rfl)),
  fun f s W i j k l m a => osure rfl rfl (a.says (d := 51) rfl rfl (j 16 rfl)) (gv (by simp [go_sem, a.e 6 k10_6]) rfl),
  fun f s W i j k l m a => osure rfl rfl (a.says (d := 51) rfl rfl (j 16 rfl)) (gv (by simp [go_sem, a.e 52 (j 17 rfl)]) rfl),
  fun f s W i j k l m a => opk (c := true) rfl rfl (fun h => absurd h (by decide)) (fun _ => by simp [go_sem, a.e 51 (j 16 rfl), a.e 53 (j 18 rfl)]),
  fun f s W i j k l m a => opm (a.v 54 (j 19 rfl)), trivial⟩ ?_
 intro f11 s11 W11 hB11 g11 hg11 z11
 have fB11 := hB11.f (hB10.f fB8)
 have k11_0 := kt hg11 0 (hB11.is 20)
 refine wp_ret ?_
 refine leave_one (N := 55) (.inr rfl) Try.results17 rfl k11_0 ?_
 exact ⟨rfl, fB11⟩
theorem armScore_yes (w : World) :
  Calls Try.prog 18 #[] w (fun e w' => e = .returned (.bool true) ∧ Below w.heap.size w w') := by
 obtain ⟨LC, hLC⟩ : ∃ L, closeL docB (⟨(300, 301), (200, 201), (200, 202), (-3, 0), (0, 200), false⟩ : Wi) (3000, 4000) = L := ⟨_, rfl⟩
 have hLz : ((LC.length : Int) == 0) = true := by rw [← hLC, show closeL docB (⟨(300, 301), (200, 201), (200, 202), (-3, 0), (0, 200), false⟩ : Wi) (3000, 4000) = [] from by kernel_rfl]; rfl
 refine calls_fr Try.func18 Try.ntmps18 rfl rfl fun g hg => ?_
 clear hg
 have fB0 : Below w.heap.size w w := Below.refl _ _
 refine rw_ 1 [(0, 0)] [[]] (rel [iB false])
  ⟨fun f s W i j k l m a => opz, trivial⟩ ?_
 intro f1 s1 W1 hB1 g1 hg1 z1
 refine wp_seq_k fun K2 hK2 => ?_
 refine rz 5 [(9, 0), (10, 1), (11, 2), (12, 3), (1, 4)] [[], [], [], [0, 1, 2], [], [0, 1, 2, 3, 4]] (rel [row 0 4 #[.int .i64 304, .int .i64 204, .int .i64 304, .int .i64 204] 3, row 1 2 #[.int .i64 101, .int .i64 101] 3, row 2 2 #[.int .i64 101, .int .i64 101] 3, isS fun s => .agg #[.int .i64 35, .slice (some ⟨(s 0), 0, none⟩) (4) (4), .int .i64 208, .slice (some ⟨(s 1), 0, none⟩) (2) (2), .slice (some ⟨(s 2), 0, none⟩) (2) (2), .int .i64 6, .bool false], bx 4 #[.int .i64 0, .slice none 0 0, .int .i64 0, .slice none 0 0, .slice none 0 0, .int .i64 0, .bool false] 41])
  ⟨row_k, row_k, row_k, isS_k fun s s' e => by rw [e 0 (by simp), e 1 (by simp), e 2 (by simp)], bx_k, trivial⟩
  ⟨fun f s W i j k l m a => opr rfl rfl (by simp [go_sem]),
  fun f s W i j k l m a => opr rfl rfl (by simp [go_sem]),
  fun f s W i j k l m a => opr rfl rfl (by simp [go_sem]),
  fun f s W i j k l m a => opv rfl rfl (by simp [go_sem, a.e 9 (j 0 rfl).1, a.e 10 (j 1 rfl).1, a.e 11 (j 2 rfl).1, upd]) rfl,
  fun f s W i j k l m a => opb rfl rfl (by simp [go_sem]), trivial⟩ ?_
 intro f2 s2 W2 hB2 g2 hg2 z2
 have fB2 := hB2.f (hB1.f fB0)
 obtain ⟨r2_0, br2_0⟩ := hB2.is 0
 have lr2_0 := hB2.lr 0 br2_0
 obtain ⟨r2_1, br2_1⟩ := hB2.is 1
 have lr2_1 := hB2.lr 1 br2_1
 obtain ⟨r2_2, br2_2⟩ := hB2.is 2
 have lr2_2 := hB2.lr 2 br2_2
 obtain ⟨r2_4, br2_4⟩ := hB2.is 4
 have lr2_4 := hB2.lr 4 br2_4
 have ne2_0_1 := hB2.nb 0 1
 have ne2_0_2 := hB2.nb 0 2
 have ne2_1_2 := hB2.nb 1 2
 have ne2_0_4 := hB2.nb 0 4
 have ne2_1_4 := hB2.nb 1 4
 have ne2_2_4 := hB2.nb 2 4
 have k2_12 := kt hg2 12 (hB2.is 3)
 have k2_1 := kt hg2 1 r2_4
 obtain ⟨W3, hW3⟩ : ∃ W', W' = W2.setRow (s2 4) #[.int .i64 35, .slice (some ⟨(s2 0), 0, none⟩) (4) (4), .int .i64 208, .slice (some ⟨(s2 1), 0, none⟩) (2) (2), .slice (some ⟨(s2 2), 0, none⟩) (2) (2), .int .i64 6, .bool false] := ⟨_, rfl⟩
 refine tsk (o := _) rfl ⟨rfl, rfl⟩ (run_seg hW3 (fr_ev k2_1) (fr_ev k2_12) br2_4 rfl rfl rfl rfl) ?_
 obtain ⟨fB3, nb3, ot3, z3⟩ := sgf hW3 fB2 br2_4 (by omega)
 clear hW3
 have b3_0 := ot3 _ _ (by omega) br2_0
 have b3_1 := ot3 _ _ (by omega) br2_1
 have b3_2 := ot3 _ _ (by omega) br2_2
 refine wpe ?_
 refine hK2 _ _ ?_
 refine wp_seq_k fun K3 hK3 => ?_
 refine ry 7 [(13, 0), (14, 1), (15, 2), (16, 3), (17, 4), (18, 5), (2, 6)] [[], [], [], [], [], [0, 1, 2, 3, 4], [], [0, 1, 2, 3, 4, 5, 6]] (rel [is (.agg #[.int .i64 300, .int .i64 301]), is (.agg #[.int .i64 200, .int .i64 201]), is (.agg #[.int .i64 200, .int .i64 202]), is (.agg #[.int .i64 (-3), .int .i64 0]), is (.agg #[.int .i64 0, .int .i64 200]), is (.agg #[.int .i64 300, .int .i64 301, .int .i64 200, .int .i64 201, .int .i64 200, .int .i64 202, .int .i64 (-3), .int .i64 0, .int .i64 0, .int .i64 200, .bool false]), bx 6 #[.int .i64 0, .int .i64 0, .int .i64 0, .int .i64 0, .int .i64 0, .int .i64 0, .int .i64 0, .int .i64 0, .int .i64 0, .int .i64 0, .bool false] 110])
  ⟨fun f s W i j k l m a => opc rfl rfl (by simp [go_sem]) (armSpan_any (300) (301) W),
  fun f s W i j k l m a => opc rfl rfl (by simp [go_sem]) (armSpan_any (200) (201) W),
  fun f s W i j k l m a => opc rfl rfl (by simp [go_sem]) (armSpan_any (200) (202) W),
  fun f s W i j k l m a => opc rfl rfl (by simp [go_sem]) (armSpan_any (-3) (0) W),
  fun f s W i j k l m a => opc rfl rfl (by simp [go_sem]) (armSpan_any (0) (200) W),
  fun f s W i j k l m a => opv rfl rfl (by simp [go_sem, a.e 13 (j 0 rfl), a.e 14 (j 1 rfl), a.e 15 (j 2 rfl), a.e 16 (j 3 rfl), a.e 17 (j 4 rfl)]) rfl,
  fun f s W i j k l m a => opb rfl rfl (by simp [go_sem]), trivial⟩ ?_
 intro f4 s4 W4 hB4 g4 hg4 z4
 have fB4 := hB4.f fB3
 have b4_0 := hB4.b b3_0
 have b4_1 := hB4.b b3_1
 have b4_2 := hB4.b b3_2
 have b4_3 := hB4.b nb3
 obtain ⟨r4_6, br4_6⟩ := hB4.is 6
 have lr4_6 := hB4.lr 6 br4_6
 have k4_1 := kt hg4 1 k2_1
 have k4_18 := kt hg4 18 (hB4.is 5)
 have k4_2 := kt hg4 2 r4_6
 obtain ⟨W5, hW5⟩ : ∃ W', W' = W4.setRow (s4 6) #[.int .i64 300, .int .i64 301, .int .i64 200, .int .i64 201, .int .i64 200, .int .i64 202, .int .i64 (-3), .int .i64 0, .int .i64 0, .int .i64 200, .bool false] := ⟨_, rfl⟩
 refine tsk (o := _) rfl ⟨rfl, rfl⟩ (run_seg hW5 (fr_ev k4_2) (fr_ev k4_18) br4_6 rfl rfl rfl rfl) ?_
 obtain ⟨fB5, nb5, ot5, z5⟩ := sgf hW5 fB4 br4_6 (by omega)
 clear hW5
 have b5_0 := ot5 _ _ (by omega) b4_0
 have b5_1 := ot5 _ _ (by omega) b4_1
 have b5_2 := ot5 _ _ (by omega) b4_2
 have b5_3 := ot5 _ _ (by omega) b4_3
 refine wpe ?_
 refine hK3 _ _ ?_
 refine rx 9 [(20, 0), (21, 1), (22, 2), (23, 3), (19, 4), (24, 5), (25, 6), (3, 7), (4, 8)] [[], [], [], [0, 1, 2], [0, 1, 2, 3], [0, 1, 2, 3, 4], [0, 1, 2, 3, 4], [0, 1, 2, 3, 4, 5], [0, 1, 2, 3, 4, 5, 6, 7]] (rel [is (.agg #[.int .i64 35, .slice (some ⟨(s2 0), 0, none⟩) (4) (4), .int .i64 208, .slice (some ⟨(s2 1), 0, none⟩) (2) (2), .slice (some ⟨(s2 2), 0, none⟩) (2) (2), .int .i64 6, .bool false]),
   is (.agg #[.int .i64 300, .int .i64 301, .int .i64 200, .int .i64 201, .int .i64 200, .int .i64 202, .int .i64 (-3), .int .i64 0, .int .i64 0, .int .i64 200, .bool false]),
   is (.agg #[.int .i64 3000, .int .i64 4000]),
   ab fun v W => ∃ x0, v = .tuple #[x0, .int .i64 0] ∧ IsPp LC x0 W,
   ab fun v W => ∃ x0, v = .tuple #[x0, .int .i64 0] ∧ IsPp LC x0 W,
   ab fun v W => IsPp LC v W,
   is (.int .i64 0),
   ab fun v W => IsPp LC v W,
   is (.int .i64 0)])
  ⟨is_k, is_k, is_k, ab_k fun v W W' hb ⟨x0, e, h0⟩ => ⟨x0, e, h0.below hb⟩, ab_k fun v W W' hb ⟨x0, e, h0⟩ => ⟨x0, e, h0.below hb⟩, ab_k fun v W W' hb h => h.below hb, is_k, ab_k fun v W W' hb h => h.below hb, is_k, trivial⟩
  ⟨fun f s W i j k l m a => opl rfl rfl rfl (a.v 1 k4_1) (bwb b5_3 i) Try.underlying41 rfl (by kernel_rfl) rfl,
  fun f s W i j k l m a => opl rfl rfl rfl (a.v 2 k4_2) (bwb nb5 i) Try.underlying110 rfl (by kernel_rfl) rfl,
  fun f s W i j k l m a => opc rfl rfl (by simp [go_sem]) (armSpan_any (3000) (4000) W),
  fun f s W i j k l m a => opd (args := #[.agg #[.int .i64 35, .slice (some ⟨(s2 0), 0, none⟩) (4) (4), .int .i64 208, .slice (some ⟨(s2 1), 0, none⟩) (2) (2), .slice (some ⟨(s2 2), 0, none⟩) (2) (2), .int .i64 6, .bool false], .agg #[.int .i64 300, .int .i64 301, .int .i64 200, .int .i64 201, .int .i64 200, .int .i64 202, .int .i64 (-3), .int .i64 0, .int .i64 0, .int .i64 200, .bool false], .agg #[.int .i64 3000, .int .i64 4000]]) rfl rfl (by simp [go_sem, a.e 20 (j 0 rfl), a.e 21 (j 1 rfl), a.e 22 (j 2 rfl)]) (close_ok (b := docB) (⟨(300, 301), (200, 201), (200, 202), (-3, 0), (0, 200), false⟩ : Wi) 3000 4000 W ⟨_, _, _, _, _, _, _, _, _, rfl, ii_block (xs := [304, 204, 304, 204]) (bwb b5_0 i) rfl rfl, ii_block (xs := [101, 101]) (bwb b5_1 i) rfl rfl, ii_block (xs := [101, 101]) (bwb b5_2 i) rfl rfl⟩ dv_size.1 (by kernel_rfl) (by decide) (by decide) (by decide)) ((fun e W' h => by obtain ⟨x, e1, h1, h2⟩ := h; rw [hLC] at h1; exact ⟨_, e1, h2, _, rfl, h1⟩)),
  fun f s W i j k l m a => opv (v := (f 3)) rfl rfl (by simp [go_sem, (a.at' 23 rfl : m.tmps[23]?.getD undef = f 3)] <;> rfl) (j 3 rfl),
  fun f s W i j k l m a => by obtain ⟨x4_0, d4, p4_0⟩ := (j 4 rfl); exact opv (v := x4_0) rfl rfl (by simp [go_sem, a.e 19 d4]) p4_0,
  fun f s W i j k l m a => by obtain ⟨x4_0, d4, p4_0⟩ := (j 4 rfl); exact opv rfl rfl (by simp [go_sem, a.e 19 d4]) rfl,
  fun f s W i j k l m a => opv (v := (f 5)) rfl rfl (by simp [go_sem, (a.at' 24 rfl : m.tmps[24]?.getD undef = f 5)] <;> rfl) (j 5 rfl),
  fun f s W i j k l m a => opv rfl rfl (by simp [go_sem, a.e 25 (j 6 rfl)]) rfl, trivial⟩ ?_
 intro f6 s6 W6 hB6 g6 hg6 z6
 have b6_0 := hB6.b b5_0
 have b6_1 := hB6.b b5_1
 have b6_2 := hB6.b b5_2
 have b6_3 := hB6.b b5_3
 obtain ⟨a19', c20', r6_7, q21'⟩ := hB6.is 7
 have lim22' := Pp.lim q21'
 have k6_1 := kt hg6 1 k4_1
 refine rw_ 11 [(27, 0), (28, 1), (26, 2), (29, 3), (30, 4), (31, 5), (32, 6), (5, 7), (6, 8), (7, 9), (8, 10)] [[], [0], [1], [2], [2], [2], [2], [3], [4], [5], [6]] (rel [is (.agg #[.int .i64 35, .slice (some ⟨(s2 0), 0, none⟩) (4) (4), .int .i64 208, .slice (some ⟨(s2 1), 0, none⟩) (2) (2), .slice (some ⟨(s2 2), 0, none⟩) (2) (2), .int .i64 6, .bool false]), is (.tuple #[.int .i64 1051, .int .i64 410, .int .i64 430910, .int .i64 0]), is (.tuple #[.int .i64 1051, .int .i64 410, .int .i64 430910, .int .i64 0]), iI 1051, iI 410, iI 430910, iI 0, iI 1051, iI 410, iI 430910, iI 0])
  ⟨fun f s W i j k l m a => opl rfl rfl rfl (a.v 1 k6_1) (bwb b6_3 i) Try.underlying41 rfl (by kernel_rfl) rfl,
  fun f s W i j k l m a => opd (args := #[.agg #[.int .i64 35, .slice (some ⟨(s2 0), 0, none⟩) (4) (4), .int .i64 208, .slice (some ⟨(s2 1), 0, none⟩) (2) (2), .slice (some ⟨(s2 2), 0, none⟩) (2) (2), .int .i64 6, .bool false]]) rfl rfl (by simp [go_sem, a.e 27 (j 0 rfl)]) (size_any _ docB W ⟨_, _, _, _, _, _, _, _, _, rfl, ii_block (xs := [304, 204, 304, 204]) (bwb b6_0 i) rfl rfl, ii_block (xs := [101, 101]) (bwb b6_1 i) rfl rfl, ii_block (xs := [101, 101]) (bwb b6_2 i) rfl rfl⟩) ((fun e W' h => ⟨_, h.1, h.2, by rw [if_pos dv_size.1, dv_size.2.1, dv_size.2.2]; rfl⟩)),
  fun f s W i j k l m a => opm (a.v 28 (j 1 rfl)),
  fun f s W i j k l m a => opv rfl rfl (by simp [go_sem, a.e 26 (j 2 rfl)]) rfl,
  fun f s W i j k l m a => opv rfl rfl (by simp [go_sem, a.e 26 (j 2 rfl)]) rfl,
  fun f s W i j k l m a => opv rfl rfl (by simp [go_sem, a.e 26 (j 2 rfl)]) rfl,
  fun f s W i j k l m a => opv rfl rfl (by simp [go_sem, a.e 26 (j 2 rfl)]) rfl,
  fun f s W i j k l m a => opm (a.v 29 (j 3 rfl)),
  fun f s W i j k l m a => opm (a.v 30 (j 4 rfl)),
  fun f s W i j k l m a => opm (a.v 31 (j 5 rfl)),
  fun f s W i j k l m a => opm (a.v 32 (j 6 rfl)), trivial⟩ ?_
 intro f7 s7 W7 hB7 g7 hg7 z7
 have q23' := (q21'.bw hB7)
 have k7_3 := kt hg7 3 (kt hg6 3 r6_7)
 have k7_4 := kt hg7 4 (kt hg6 4 (hB6.is 8))
 have k7_5 := kt hg7 5 (hB7.is 7)
 have k7_6 := kt hg7 6 (hB7.is 8)
 have k7_8 := kt hg7 8 (hB7.is 10)
 refine rw_ 20 [(33, 0), (34, 1), (35, 2), (36, 3), (37, 4), (38, 5), (39, 6), (40, 7), (41, 8), (42, 9), (43, 10), (44, 11), (45, 12), (46, 13), (47, 14), (48, 15), (49, 16), (50, 17), (51, 18), (0, 19)] [[], [0], [1], [2], [2, 3], [2, 4], [5], [6], [6, 7], [6, 8], [6, 9], [10], [11], [11, 12], [11, 13], [14], [15], [15, 16], [15, 17], [18]] (rel [iI 0, iB true, iB true, iI 0, iB true, iB true, iB true, is (.slice a19' (LC.length) c20'), iI ((LC.length : Int)), iB true, iB true, iB true, iI 1051, iB true, iB true, iB true, iI 410, iB true, iB true, iB true])
  ⟨fun f s W i j k l m a => opm (a.v 4 k7_4),
  fun f s W i j k l m a => opv rfl rfl (by simp [go_sem, a.e 33 (j 0 rfl)]) rfl,
  fun f s W i j k l m a => opm (a.v 34 (j 1 rfl)),
  fun f s W i j k l m a => osure rfl rfl (a.says (d := 35) rfl rfl (j 2 rfl)) (gv (by simp [go_sem, a.e 8 k7_8]) rfl),
  fun f s W i j k l m a => osure rfl rfl (a.says (d := 35) rfl rfl (j 2 rfl)) (gv (by simp [go_sem, a.e 36 (j 3 rfl)]) rfl),
  fun f s W i j k l m a => opk (c := true) rfl rfl (fun h => absurd h (by decide)) (fun _ => by simp [go_sem, a.e 35 (j 2 rfl), a.e 37 (j 4 rfl)]),
  fun f s W i j k l m a => opm (a.v 38 (j 5 rfl)),
  fun f s W i j k l m a => osure rfl rfl (a.says (d := 39) rfl rfl (j 6 rfl)) (gv (by simp [go_sem, a.e 3 k7_3]) rfl),
  fun f s W i j k l m a => osure rfl rfl (a.says (d := 39) rfl rfl (j 6 rfl)) (gv (by simp [go_sem, a.e 40 (j 7 rfl)]) rfl),
  fun f s W i j k l m a => osure rfl rfl (a.says (d := 39) rfl rfl (j 6 rfl)) (gv (by simp [go_sem, a.e 41 (j 8 rfl), hLz]) rfl),
  fun f s W i j k l m a => opk (c := true) rfl rfl (fun h => absurd h (by decide)) (fun _ => by simp [go_sem, a.e 39 (j 6 rfl), a.e 42 (j 9 rfl)]),
  fun f s W i j k l m a => opm (a.v 43 (j 10 rfl)),
  fun f s W i j k l m a => osure rfl rfl (a.says (d := 44) rfl rfl (j 11 rfl)) (gv (by simp [go_sem, a.e 5 k7_5]) rfl),
  fun f s W i j k l m a => osure rfl rfl (a.says (d := 44) rfl rfl (j 11 rfl)) (gv (by simp [go_sem, a.e 45 (j 12 rfl)]) rfl),
  fun f s W i j k l m a => opk (c := true) rfl rfl (fun h => absurd h (by decide)) (fun _ => by simp [go_sem, a.e 44 (j 11 rfl), a.e 46 (j 13 rfl)]),
  fun f s W i j k l m a => opm (a.v 47 (j 14 rfl)),
  fun f s W i j k l m a => osure rfl rfl (a.says (d := 48) rfl rfl (j 15 rfl)) (gv (by simp [go_sem, a.e 6 k7_6]) rfl),
  fun f s W i j k l m a => osure rfl rfl (a.says (d := 48) rfl rfl (j 15 rfl)) (gv (by simp [go_sem, a.e 49 (j 16 rfl)]) rfl),
  fun f s W i j k l m a => opk (c := true) rfl rfl (fun h => absurd h (by decide)) (fun _ => by simp [go_sem, a.e 48 (j 15 rfl), a.e 50 (j 17 rfl)]),
  fun f s W i j k l m a => opm (a.v 51 (j 18 rfl)), trivial⟩ ?_
 intro f8 s8 W8 hB8 g8 hg8 z8
 have fB8 := hB8.f (hB7.f (hB6.f fB5))
 have q24' := (q23'.bw hB8)
 have k8_0 := kt hg8 0 (hB8.is 19)
 refine wp_ret ?_
 refine leave_one (N := 52) (.inr rfl) Try.results18 rfl k8_0 ?_
 exact ⟨rfl, fB8⟩
theorem armInts_any (a : Option Addr) (c : Nat) (xs : List Int) (w : World) (h : Ii w a xs.length c xs) (hn : xs.length ≤ 1000) :
  Calls Try.prog 22 #[.slice a (xs.length) c] w (fun e w' => ∃ v, e = .returned v ∧ NwIi w.heap.size xs v w' ∧ Below w.heap.size w w') := by
 refine calls_fr Try.func22 Try.ntmps22 rfl rfl fun g hg => ?_
 have k0 : g 0 = .slice a (xs.length) c := hg 0
 clear hg
 have fB0 : Below w.heap.size w w := Below.refl _ _
 refine rw_ 1 [(2, 0)] [[]] (rel [is (.slice none 0 0)])
  ⟨fun f s W d i j k l b => opv rfl rfl (by simp [go_sem]) rfl, trivial⟩ ?_
 intro f1 s1 W1 hB1 g1 hg1 z1
 have fB1 := hB1.f fB0
 have k1_0 := kt hg1 0 k0
 refine rx 4 [(3, 0), (4, 1), (5, 2), (2, 3)] [[], [], [0, 1], [2]] (rel [row 0 0 #[] 3, is (.slice a (xs.length) c), ab fun v W => NwIi W1.heap.size (xs) v W, ab fun v W => NwIi W1.heap.size (xs) v W])
  ⟨row_k, is_k, ab_k fun v W W' hb h => h.below hb, ab_k fun v W W' hb h => h.below hb, trivial⟩
  ⟨fun f s W d i j k l b => opr rfl rfl (by simp [go_sem]),
  fun f s W d i j k l b => opm (b.v 0 k1_0),
  fun f s W d i j k l b => by have m := bwt fB1 d; obtain ⟨v_, W_, r_, b_, i_⟩ := clone_run 39 W (s 0) (a) (c) (xs) ((h.below m (Nat.le_refl _))) (hn) (i 0 rfl).2 W1.heap.size (j 0 rfl) d.size; exact opDo_value rfl rfl (run_appendOp (b.v 3 (i 0 rfl).1) (b.v 4 (i 1 rfl)) r_) b_ i_,
  fun f s W d i j k l b => opv (v := (f 2)) rfl rfl (by simp [go_sem, (b.at' 5 rfl : l.tmps[5]?.getD undef = f 2)] <;> rfl) (i 2 rfl), trivial⟩ ?_
 intro f2 s2 W2 hB2 g2 hg2 z2
 have fB2 := hB2.f fB1
 obtain ⟨r2_0, br2_0⟩ := hB2.is 0
 have lr2_0 := hB2.lr 0 br2_0
 obtain ⟨g21', c22', r2_3, q23', q25', q24'⟩ := hB2.is 3
 have k2_2 := kt hg2 2 r2_3
 refine wp_ret ?_
 refine leave_one (N := 6) (.inr rfl) Try.results22 rfl k2_2 ?_
 exact ⟨_, rfl, ⟨_, _, rfl, q23', (by omega), q24'⟩, fB2⟩
theorem armInts_own (a : Option Addr) (c nn : Nat) (xs : List Int) (w : World) (h : Ii w a nn c xs) (hn : nn ≤ 1000) (h0 : 0 < nn) :
  Calls Try.prog 22 #[.slice a nn c] w (OwIP xs nn w) := by
 refine calls_fr Try.func22 Try.ntmps22 rfl rfl fun g hg => ?_
 have k0 : g 0 = .slice a nn c := hg 0
 clear hg
 have fB0 : Below w.heap.size w w := Below.refl _ _
 refine rw_ 1 [(2, 0)] [[]] (rel [is (.slice none 0 0)])
  ⟨fun f s W d i j l m b => opv rfl rfl (by simp [go_sem]) rfl, trivial⟩ ?_
 intro f1 s1 W1 hB1 g1 hg1 z1
 have fB1 := hB1.f fB0
 have k1_0 := kt hg1 0 k0
 refine rx 4 [(3, 0), (4, 1), (5, 2), (2, 3)] [[], [], [0, 1], [2]] (rel [row 0 0 #[] 3, is (.slice a nn c), fun v s W => OwI (s 2) (xs) nn v W, fun v s W => OwI (s 2) (xs) nn v W])
  ⟨row_k, is_k, ⟨fun v k W W' hb h => h.below hb, fun v s s' W e h => by have h' : OwI (s 2) (xs) nn v W := h; show OwI (s' 2) (xs) nn v W; rw [← e 2 (by simp)]; exact h'⟩, ⟨fun v k W W' hb h => h.below hb, fun v s s' W e h => by have h' : OwI (s 2) (xs) nn v W := h; show OwI (s' 2) (xs) nn v W; rw [← e 2 (by simp)]; exact h'⟩, trivial⟩
  ⟨fun f s W d i j l m b => opr rfl rfl (by simp [go_sem]),
  fun f s W d i j l m b => opm (b.v 0 k1_0),
  fun f s W d i j l m b => by have n := bwt fB1 d; obtain ⟨v_, W_, r_, b_, i_⟩ := cloneO_run 39 W (s 0) (a) (c) (xs) nn ((h.below n (Nat.le_refl _))) (hn) (h0) (i 0 rfl).2; exact opDo_value rfl rfl (run_appendOp (b.v 3 (i 0 rfl).1) (b.v 4 (i 1 rfl)) r_) b_ (show OwI (upd s 2 W.heap.size 2) (xs) nn v_ W_ from by rw [upd_at]; exact i_),
  fun f s W d i j l m b => opv (v := (f 2)) rfl rfl (by simp [go_sem, (b.at' 5 rfl : m.tmps[5]?.getD undef = f 2)] <;> rfl) (i 2 rfl), trivial⟩ ?_
 intro f2 s2 W2 hB2 g2 hg2 z2
 have fB2 := hB2.f fB1
 obtain ⟨r2_0, br2_0⟩ := hB2.is 0
 have lr2_0 := hB2.lr 0 br2_0
 obtain ⟨g53', c54', r2_3, q55'⟩ := hB2.is 3
 have la2_3 := hB2.from' 2 (by decide)
 have lo2_3_o := q55'.lim
 have q56' := q55'.low (B' := w.heap.size) (Nat.le_trans fB1.size (la2_3))
 have k2_2 := kt hg2 2 r2_3
 refine wp_ret ?_
 refine leave_one (N := 6) (.inr rfl) Try.results22 rfl k2_2 ?_
 exact ⟨_, rfl, ⟨_, _, rfl, q56'⟩, fB2⟩
theorem armBlank_any (a1 a2 a3 : Option Addr) (c1 c2 c3 : Nat) (b : Bl) (w : World) (h1 : Ii w a1 b.panels.length c1 b.panels) (h2 : Ii w a2 b.top.length c2 b.top) (h3 : Ii w a3 b.bottom.length c3 b.bottom) (n1 : b.panels.length ≤ 1000) (n2 : b.top.length ≤ 1000) (n3 : b.bottom.length ≤ 1000) :
  Calls Try.prog 19 #[.agg #[.int .i64 b.tab, .slice a1 (b.panels.length) c1, .int .i64 b.height, .slice a2 (b.top.length) c2, .slice a3 (b.bottom.length) c3, .int .i64 b.slot, .bool b.isOpen]] w (NwBlkP b w) := by
 refine calls_fr Try.func19 Try.ntmps19 rfl rfl fun g hg => ?_
 have k0 : g 0 = .agg #[.int .i64 b.tab, .slice a1 (b.panels.length) c1, .int .i64 b.height, .slice a2 (b.top.length) c2, .slice a3 (b.bottom.length) c3, .int .i64 b.slot, .bool b.isOpen] := hg 0
 clear hg
 have fB0 : Below w.heap.size w w := Below.refl _ _
 refine rw_ 2 [(1, 0), (2, 1)] [[], []] (rel [bx 0 #[.int .i64 b.tab, .slice a1 (b.panels.length) c1, .int .i64 b.height, .slice a2 (b.top.length) c2, .slice a3 (b.bottom.length) c3, .int .i64 b.slot, .bool b.isOpen] 41, bx 1 #[.int .i64 0, .slice none 0 0, .int .i64 0, .slice none 0 0, .slice none 0 0, .int .i64 0, .bool false] 41])
  ⟨fun f s W c d i j l a => opb rfl rfl (by simp [go_sem, a.e 0 k0]),
  fun f s W c d i j l a => opb rfl rfl (by simp [go_sem]), trivial⟩ ?_
 intro f1 s1 W1 hB1 g1 hg1 z1
 have fB1 := hB1.f fB0
 obtain ⟨r1_0, br1_0⟩ := hB1.is 0
 have lr1_0 := hB1.lr 0 br1_0
 obtain ⟨r1_1, br1_1⟩ := hB1.is 1
 have lr1_1 := hB1.lr 1 br1_1
 have ne1_0_1 := hB1.nb 0 1
 have k1_1 := kt hg1 1 r1_0
 refine wp_seq_k fun K2 hK2 => ?_
 refine rz 10 [(3, 0), (4, 1), (5, 2), (6, 3), (7, 4), (8, 5), (9, 6), (10, 7), (11, 8), (12, 9), (13, 11), (14, 13)] [[], [0], [1], [], [3], [4], [], [6], [5, 7], [], [0, 1, 2, 3, 4, 5, 6, 7, 8, 9], [0, 1, 2, 3, 4, 5, 6, 7, 8, 9, 10], [0, 1, 2, 3, 4, 5, 6, 7, 8, 9, 10, 11], [0, 1, 2, 3, 4, 5, 6, 7, 8, 9, 10, 11, 12], [0, 1, 2, 3, 4, 5, 6, 7, 8, 9, 10, 11, 12, 13]] (rel [is (.pointer (some ⟨(s1 0), 1, none⟩)), is (.slice a1 (b.panels.length) c1), fun v s W => NwIi (s 2) (b.panels) v W, is (.pointer (some ⟨(s1 0), 3, none⟩)), is (.slice a2 (b.top.length) c2), fun v s W => NwIi (s 5) (b.top) v W, is (.pointer (some ⟨(s1 0), 4, none⟩)), is (.slice a3 (b.bottom.length) c3), fun v s W => NwIi (s 8) (b.bottom) v W, is (.pointer (some ⟨(s1 0), 1, none⟩))])
  ⟨is_k, is_k, ⟨fun v k W W' hb h => h.below hb, fun v s s' W e h => by have h' : NwIi (s 2) (b.panels) v W := h; show NwIi (s' 2) (b.panels) v W; rw [← e 2 (by simp)]; exact h'⟩, is_k, is_k, ⟨fun v k W W' hb h => h.below hb, fun v s s' W e h => by have h' : NwIi (s 5) (b.top) v W := h; show NwIi (s' 5) (b.top) v W; rw [← e 5 (by simp)]; exact h'⟩, is_k, is_k, ⟨fun v k W W' hb h => h.below hb, fun v s s' W e h => by have h' : NwIi (s 8) (b.bottom) v W := h; show NwIi (s' 8) (b.bottom) v W; rw [← e 8 (by simp)]; exact h'⟩, is_k, trivial⟩
  ⟨fun f s W c d i j l a => opv rfl rfl (by simp [go_sem, a.e 1 k1_1]) rfl,
  fun f s W c d i j l a => opv rfl rfl (by simp [go_sem, a.e 3 (d 0 rfl), cb br1_0 c 1]) rfl,
  fun f s W c d i j l a => by have m := bwt fB1 c; exact opd rfl rfl (by simp [go_sem, a.e 4 (d 1 rfl)]) (armInts_any a1 c1 b.panels W (h1.below m (Nat.le_refl _)) n1) (fun e W' h => by obtain ⟨v, e1, h1, h2⟩ := h; exact ⟨v, e1, h2, (show NwIi (upd s 2 W.heap.size 2) (b.panels) v W' from by rw [upd_at]; exact h1)⟩),
  fun f s W c d i j l a => opv rfl rfl (by simp [go_sem, a.e 1 k1_1]) rfl,
  fun f s W c d i j l a => opv rfl rfl (by simp [go_sem, a.e 6 (d 3 rfl), cb br1_0 c 3]) rfl,
  fun f s W c d i j l a => by have m := bwt fB1 c; exact opd rfl rfl (by simp [go_sem, a.e 7 (d 4 rfl)]) (armInts_any a2 c2 b.top W (h2.below m (Nat.le_refl _)) n2) (fun e W' h => by obtain ⟨v, e1, h1, h2⟩ := h; exact ⟨v, e1, h2, (show NwIi (upd s 5 W.heap.size 5) (b.top) v W' from by rw [upd_at]; exact h1)⟩),
  fun f s W c d i j l a => opv rfl rfl (by simp [go_sem, a.e 1 k1_1]) rfl,
  fun f s W c d i j l a => opv rfl rfl (by simp [go_sem, a.e 9 (d 6 rfl), cb br1_0 c 4]) rfl,
  fun f s W c d i j l a => by have m := bwt fB1 c; exact opd rfl rfl (by simp [go_sem, a.e 10 (d 7 rfl)]) (armInts_any a3 c3 b.bottom W (h3.below m (Nat.le_refl _)) n3) (fun e W' h => by obtain ⟨v, e1, h1, h2⟩ := h; exact ⟨v, e1, h2, (show NwIi (upd s 8 W.heap.size 8) (b.bottom) v W' from by rw [upd_at]; exact h1)⟩),
  fun f s W c d i j l a => opv rfl rfl (by simp [go_sem, a.e 1 k1_1]) rfl, trivial⟩ ?_
 intro f2 s2 W2 hB2 g2 hg2 z2
 have fB2 := hB2.f fB1
 have b2_0 := hB2.b br1_0
 have b2_1 := hB2.b br1_1
 obtain ⟨g16', c17', r2_2, q18', q20', q19'⟩ := hB2.is 2
 obtain ⟨g21', c22', r2_5, q23', q25', q24'⟩ := hB2.is 5
 obtain ⟨g26', c27', r2_8, q28', q30', q29'⟩ := hB2.is 8
 have la2_2 := hB2.from' 2 (by decide)
 have la2_5 := hB2.from' 5 (by decide)
 have la2_8 := hB2.from' 8 (by decide)
 have k2_1 := kt hg2 1 k1_1
 have k2_5 := kt hg2 5 r2_2
 have k2_12 := kt hg2 12 (hB2.is 9)
 obtain ⟨W3, hW3⟩ : ∃ W', W' = W2.setRow (s1 0) #[.int .i64 b.tab, .slice (some ⟨g16', 0, none⟩) ((b.panels).length) (c17'), .int .i64 b.height, .slice a2 (b.top.length) c2, .slice a3 (b.bottom.length) c3, .int .i64 b.slot, .bool b.isOpen] := ⟨_, rfl⟩
 refine tsk (o := _) rfl ⟨rfl, rfl⟩ (run_seg hW3 (fr_ev k2_12) (fr_ev k2_5) b2_0 rfl rfl rfl rfl) ?_
 obtain ⟨fB3, nb3, ot3, z3⟩ := sgf hW3 fB2 b2_0 (by omega)
 clear hW3
 have b3_1 := ot3 _ _ (by omega) b2_1
 have q31' := (q18'.other ot3 q19' (by omega) z3)
 have q32' := Nat.lt_of_lt_of_le q19' z3
 have q33' := (q23'.other ot3 q24' (by omega) z3)
 have q34' := Nat.lt_of_lt_of_le q24' z3
 have q35' := (q28'.other ot3 q29' (by omega) z3)
 have q36' := Nat.lt_of_lt_of_le q29' z3
 refine tail_value (o := _) rfl rfl rfl (v := .pointer (some ⟨(s1 0), 3, none⟩)) (by simp [go_sem, frv 16 k2_1]) ?_
 generalize hg4 : upd g2 13 (.pointer (some ⟨(s1 0), 3, none⟩)) = g4
 have k4_1 := ku hg4 1 k2_1
 have k4_8 := ku hg4 8 (kt hg2 8 r2_5)
 have k4_13 := kt hg4 13 (upd_same _ _ _)
 obtain ⟨W5, hW5⟩ : ∃ W', W' = W3.setRow (s1 0) #[.int .i64 b.tab, .slice (some ⟨g16', 0, none⟩) ((b.panels).length) (c17'), .int .i64 b.height, .slice (some ⟨g21', 0, none⟩) ((b.top).length) (c22'), .slice a3 (b.bottom.length) c3, .int .i64 b.slot, .bool b.isOpen] := ⟨_, rfl⟩
 refine tsk (o := _) rfl ⟨rfl, rfl⟩ (run_seg hW5 (fr_ev k4_13) (fr_ev k4_8) nb3 rfl rfl rfl rfl) ?_
 obtain ⟨fB5, nb5, ot5, z5⟩ := sgf hW5 fB3 nb3 (by omega)
 clear hW5
 have b5_1 := ot5 _ _ (by omega) b3_1
 have q37' := (q31'.other ot5 q32' (by omega) z5)
 have q38' := Nat.lt_of_lt_of_le q32' z5
 have q39' := (q33'.other ot5 q34' (by omega) z5)
 have q40' := Nat.lt_of_lt_of_le q34' z5
 have q41' := (q35'.other ot5 q36' (by omega) z5)
 have q42' := Nat.lt_of_lt_of_le q36' z5
 refine tail_value (o := _) rfl rfl rfl (v := .pointer (some ⟨(s1 0), 4, none⟩)) (by simp [go_sem, frv 16 k4_1]) ?_
 generalize hg6 : upd g4 14 (.pointer (some ⟨(s1 0), 4, none⟩)) = g6
 have k6_1 := ku hg6 1 k4_1
 have k6_11 := ku hg6 11 (ku hg4 11 (kt hg2 11 r2_8))
 have k6_14 := kt hg6 14 (upd_same _ _ _)
 obtain ⟨W7, hW7⟩ : ∃ W', W' = W5.setRow (s1 0) #[.int .i64 b.tab, .slice (some ⟨g16', 0, none⟩) ((b.panels).length) (c17'), .int .i64 b.height, .slice (some ⟨g21', 0, none⟩) ((b.top).length) (c22'), .slice (some ⟨g26', 0, none⟩) ((b.bottom).length) (c27'), .int .i64 b.slot, .bool b.isOpen] := ⟨_, rfl⟩
 refine tsk (o := _) rfl ⟨rfl, rfl⟩ (run_seg hW7 (fr_ev k6_14) (fr_ev k6_11) nb5 rfl rfl rfl rfl) ?_
 obtain ⟨fB7, nb7, ot7, z7⟩ := sgf hW7 fB5 nb5 (by omega)
 clear hW7
 have b7_1 := ot7 _ _ (by omega) b5_1
 have q43' := (q37'.other ot7 q38' (by omega) z7)
 have q44' := Nat.lt_of_lt_of_le q38' z7
 have q45' := (q39'.other ot7 q40' (by omega) z7)
 have q46' := Nat.lt_of_lt_of_le q40' z7
 have q47' := (q41'.other ot7 q42' (by omega) z7)
 have q48' := Nat.lt_of_lt_of_le q42' z7
 refine wpe ?_
 refine hK2 _ _ ?_
 refine wp_seq_k fun K3 hK3 => ?_
 refine ry 1 [(15, 0)] [[], [0]] (rel [is (.agg #[.int .i64 b.tab, .slice (some ⟨g16', 0, none⟩) ((b.panels).length) (c17'), .int .i64 b.height, .slice (some ⟨g21', 0, none⟩) ((b.top).length) (c22'), .slice (some ⟨g26', 0, none⟩) ((b.bottom).length) (c27'), .int .i64 b.slot, .bool b.isOpen])])
  ⟨fun f s W c d i j l a => opv rfl rfl (by simp [go_sem, a.e 1 k6_1, cb nb7 c 0, cb nb7 c 1, cb nb7 c 2, cb nb7 c 3, cb nb7 c 4, cb nb7 c 5, cb nb7 c 6]) rfl, trivial⟩ ?_
 intro f8 s8 W8 hB8 g8 hg8 z8
 have fB8 := hB8.f fB7
 have b8_1 := hB8.b b7_1
 have q49' := q43'.bw hB8
 have q50' := (hB8.lt q44')
 have q51' := q45'.bw hB8
 have q52' := (hB8.lt q46')
 have q53' := q47'.bw hB8
 have q54' := (hB8.lt q48')
 have k8_2 := kt hg8 2 (ku hg6 2 (ku hg4 2 (kt hg2 2 (kt hg1 2 r1_1))))
 have k8_15 := kt hg8 15 (hB8.is 0)
 obtain ⟨W9, hW9⟩ : ∃ W', W' = W8.setRow (s1 1) #[.int .i64 b.tab, .slice (some ⟨g16', 0, none⟩) ((b.panels).length) (c17'), .int .i64 b.height, .slice (some ⟨g21', 0, none⟩) ((b.top).length) (c22'), .slice (some ⟨g26', 0, none⟩) ((b.bottom).length) (c27'), .int .i64 b.slot, .bool b.isOpen] := ⟨_, rfl⟩
 refine tsk (o := _) rfl ⟨rfl, rfl⟩ (run_seg hW9 (fr_ev k8_2) (fr_ev k8_15) b8_1 rfl rfl rfl rfl) ?_
 obtain ⟨fB9, nb9, ot9, z9⟩ := sgf hW9 fB8 b8_1 (by omega)
 clear hW9
 have q55' := (q49'.other ot9 q50' (by omega) z9)
 have q56' := Nat.lt_of_lt_of_le q50' z9
 have q57' := (q51'.other ot9 q52' (by omega) z9)
 have q58' := Nat.lt_of_lt_of_le q52' z9
 have q59' := (q53'.other ot9 q54' (by omega) z9)
 have q60' := Nat.lt_of_lt_of_le q54' z9
 refine wpe ?_
 refine hK3 _ _ ?_
 refine wp_ret ?_
 refine leave_gen (v := .agg #[.int .i64 b.tab, .slice (some ⟨g16', 0, none⟩) ((b.panels).length) (c17'), .int .i64 b.height, .slice (some ⟨g21', 0, none⟩) ((b.top).length) (c22'), .slice (some ⟨g26', 0, none⟩) ((b.bottom).length) (c27'), .int .i64 b.slot, .bool b.isOpen]) (.inr rfl) (by simp [results, Try.results19, go_sem, frv 16 k8_2, cl nb9 0, cl nb9 1, cl nb9 2, cl nb9 3, cl nb9 4, cl nb9 5, cl nb9 6]) ?_
 exact ⟨_, rfl, ⟨_, _, _, _, _, _, rfl, ⟨q55', by omega, q56'⟩, ⟨q57', by omega, q58'⟩, ⟨q59', by omega, q60'⟩⟩, fB9⟩
end Go.Proofs.Ytolnpbpeifpbjaa
