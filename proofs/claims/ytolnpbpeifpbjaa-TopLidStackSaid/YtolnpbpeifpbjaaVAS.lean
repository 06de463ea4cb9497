/- Part of the proof: what the claim leans on. -/
import Derived.Test.YtolnpbpeifpbjaaVAQ
import Derived.Test.YtolnpbpeifpbjaaVAR
set_option maxHeartbeats 8000000
set_option maxRecDepth 100000
set_option linter.unusedSimpArgs false
set_option linter.unusedVariables false
namespace Go.Proofs.Ytolnpbpeifpbjaa
open Go.RowKit
theorem measure_1 (ps : Nat → Pa) (qs : Nat → Fu) (bp oP np cp bq oq nq cq : Nat) (tx ux cx tf uf cf pa0 pa1 pa2 fa0 : Nat) (PA0 PA1 PA2 : Pa) (FA0 : Fu) (wh : Int) (qv0 : Int) (sa sb ma mb ka kb : Int) (oa ob : Nat → Int) (w : World) (hP : PaR w bp oP np ps) (hQ : FuR w bq oq nq qs) (hpi : ∀ i, i < np → PaIn (ps i)) (hqi : ∀ i, i < nq → FuIn (qs i)) (np1 : 1 ≤ np) (np8 : np ≤ 8) (nq1 : 1 ≤ nq) (nq4 : nq ≤ 4) (hX : Ii w (some ⟨tx, ux, none⟩) 3 cx [(pa0 : Int), (pa1 : Int), (pa2 : Int)]) (hF : Ii w (some ⟨tf, uf, none⟩) 1 cf [(fa0 : Int)]) (hpa0 : pa0 < np) (epa0 : ps pa0 = PA0) (hpa1 : pa1 < np) (epa1 : ps pa1 = PA1) (hpa2 : pa2 < np) (epa2 : ps pa2 = PA2) (hfa0 : fa0 < nq) (efa0 : qs fa0 = FA0) (hk0 : PA0.kind = 1) (hk1 : PA1.kind = 2) (hk2 : PA2.kind = 1) (hwh : FA0.pitch = wh) (gwh : 0 ≤ wh ∧ wh ≤ 100000000) (gw1 : 0 ≤ FA0.pitch ∧ FA0.pitch ≤ 10000) (hqv0 : wh / FA0.pitch = qv0) (gqv0 : 0 ≤ qv0 ∧ qv0 ≤ 100000000) (gqd0 : 0 ≤ qv0 * FA0.draw ∧ qv0 * FA0.draw ≤ 200000000) (gpi0 : 1000 ≤ FA0.pitch ∧ FA0.pitch ≤ 10000) (gwp : 1 ≤ wh) (hsa : sumS oa (fun i => [wh, qv0 * FA0.draw, wh].getD i 0) 3 = sa) (gsa : 0 ≤ sa ∧ sa ≤ 10000000000000000) (hma : sa / (1000 * wh) = ma) (gma : 0 ≤ ma ∧ ma ≤ 10000000000000000) (hoa : ∀ i, i < 3 → 0 ≤ oa i ∧ oa i ≤ 1200000) (hka : (PA0.t1 + PA2.t1) + FA0.h1 = ka) (hva0 : PA0.weight * (1000 + PA0.m1) = oa 0) (hva1 : PA1.weight * (1000 + PA1.m1) = oa 1) (hva2 : PA2.weight * (1000 + PA2.m1) = oa 2) (hsb : sumS ob (fun i => [wh, qv0 * FA0.draw, wh].getD i 0) 3 = sb) (gsb : 0 ≤ sb ∧ sb ≤ 10000000000000000) (hmb : sb / (1000 * wh) = mb) (gmb : 0 ≤ mb ∧ mb ≤ 10000000000000000) (hob : ∀ i, i < 3 → 0 ≤ ob i ∧ ob i ≤ 1200000) (hkb : (PA0.t2 + PA2.t2) + FA0.h2 = kb) (hvb0 : PA0.weight * (1000 + PA0.m2) = ob 0) (hvb1 : PA1.weight * (1000 + PA1.m2) = ob 1) (hvb2 : PA2.weight * (1000 + PA2.m2) = ob 2) :
  Calls Try.prog 34 #[.agg #[.slice (some ⟨tx, ux, none⟩) 3 cx, .slice (some ⟨tf, uf, none⟩) 1 cf, .slice (some ⟨bp, oP, none⟩) np cp, .slice (some ⟨bq, oq, none⟩) nq cq, .int .i64 wh]] w (fun e w' => e = .returned (.tuple #[.agg #[.int .i64 ma, .int .i64 mb], .agg #[.int .i64 ka, .int .i64 kb]]) ∧ Below w.heap.size w w') := by
 refine calls_fr Try.func34 Try.ntmps34 rfl rfl fun g hg => ?_
 have k0 : g 0 = .agg #[.slice (some ⟨tx, ux, none⟩) 3 cx, .slice (some ⟨tf, uf, none⟩) 1 cf, .slice (some ⟨bp, oP, none⟩) np cp, .slice (some ⟨bq, oq, none⟩) nq cq, .int .i64 wh] := hg 0
 clear hg
 have fB0 : Below w.heap.size w w := Below.refl _ _
 refine rw_ 3 [(1, 0), (2, 1), (3, 2)] [[], [], []] (rel [bx 0 #[.slice (some ⟨tx, ux, none⟩) 3 cx, .slice (some ⟨tf, uf, none⟩) 1 cf, .slice (some ⟨bp, oP, none⟩) np cp, .slice (some ⟨bq, oq, none⟩) nq cq, .int .i64 wh] 95, bx 1 #[.int .i64 0, .int .i64 0] 62, bx 2 #[.int .i64 0, .int .i64 0] 62])
  ⟨fun f s W c d j k m a => opb rfl rfl (by simp [go_sem, a.e 0 k0]),
  fun f s W c d j k m a => opb rfl rfl (by simp [go_sem]),
  fun f s W c d j k m a => opb rfl rfl (by simp [go_sem]), trivial⟩ ?_
 intro f1 s1 W1 hB1 g1 hg1 z1
 obtain ⟨r1_0, br1_0⟩ := hB1.is 0
 have lr1_0 := hB1.lr 0 br1_0
 obtain ⟨r1_1, br1_1⟩ := hB1.is 1
 have lr1_1 := hB1.lr 1 br1_1
 obtain ⟨r1_2, br1_2⟩ := hB1.is 2
 have lr1_2 := hB1.lr 2 br1_2
 have ne1_0_1 := hB1.nb 0 1
 have ne1_0_2 := hB1.nb 0 2
 have ne1_1_2 := hB1.nb 1 2
 refine rw_ 2 [(4, 0), (5, 1)] [[], []] (rel [is (.func (.func 56) #[] #[]), is (.func (.func 57) #[] #[])])
  ⟨fun f s W c d j k m a => opv rfl rfl (by simp [go_sem]) rfl,
  fun f s W c d j k m a => opv rfl rfl (by simp [go_sem]) rfl, trivial⟩ ?_
 intro f2 s2 W2 hB2 g2 hg2 z2
 have fB2 := hB2.f (hB1.f fB0)
 have b2_0 := hB2.b br1_0
 have b2_1 := hB2.b br1_1
 have b2_2 := hB2.b br1_2
 have k2_1 := kt hg2 1 (kt hg1 1 r1_0)
 have k2_2 := kt hg2 2 (kt hg1 2 r1_1)
 have k2_4 := kt hg2 4 (hB2.is 0)
 have k2_5 := kt hg2 5 (hB2.is 1)
 refine wp_seq_k fun K3 hK3 => ?_
 refine region_doL (LeY (s1 1) 62 #[.int .i64 ma, .int .i64 mb]) LeY.refl LeY.drew LeY.trans (fun _ _ h => h.keep.size) 15 [(6, 0), (7, 1), (8, 2), (9, 3), (10, 4), (11, 5), (12, 6), (13, 7), (14, 8), (15, 9), (16, 10), (17, 11), (18, 12), (19, 13)] [[], [], [0, 1], [], [], [0, 1, 2, 3, 4], [0, 1, 2, 3, 4, 5], [], [], [0, 1, 2, 3, 4, 5, 7, 8], [], [], [0, 1, 2, 3, 4, 5, 7, 8, 9, 10, 11], [0, 1, 2, 3, 4, 5, 7, 8, 9, 10, 11, 12], [0, 1, 2, 3, 4, 5, 6, 7, 8, 9, 10, 11, 12], [0, 1, 2, 3, 4, 5, 6, 7, 8, 9, 10, 11, 12, 13, 14]] (rel [is (.agg #[.slice (some ⟨tx, ux, none⟩) 3 cx, .slice (some ⟨tf, uf, none⟩) 1 cf, .slice (some ⟨bp, oP, none⟩) np cp, .slice (some ⟨bq, oq, none⟩) nq cq, .int .i64 wh]),
   is (.func (.func 56) #[] #[]),
   is (.int .i64 ma),
   is (.agg #[.slice (some ⟨tx, ux, none⟩) 3 cx, .slice (some ⟨tf, uf, none⟩) 1 cf, .slice (some ⟨bp, oP, none⟩) np cp, .slice (some ⟨bq, oq, none⟩) nq cq, .int .i64 wh]),
   is (.func (.func 57) #[] #[]),
   is (.int .i64 mb),
   is (.agg #[.int .i64 ma, .int .i64 mb]),
   is (.agg #[.slice (some ⟨tx, ux, none⟩) 3 cx, .slice (some ⟨tf, uf, none⟩) 1 cf, .slice (some ⟨bp, oP, none⟩) np cp, .slice (some ⟨bq, oq, none⟩) nq cq, .int .i64 wh]),
   is (.func (.func 56) #[] #[]),
   is (.int .i64 ka),
   is (.agg #[.slice (some ⟨tx, ux, none⟩) 3 cx, .slice (some ⟨tf, uf, none⟩) 1 cf, .slice (some ⟨bp, oP, none⟩) np cp, .slice (some ⟨bq, oq, none⟩) nq cq, .int .i64 wh]),
   is (.func (.func 57) #[] #[]),
   is (.int .i64 kb),
   is (.agg #[.int .i64 ka, .int .i64 kb]),
   stoY (s1 1) 62 #[.int .i64 ma, .int .i64 mb]]) (by kernel_rfl) (by kernel_rfl) (by kernel_rfl) (by kernel_rfl)
  ⟨is_kl, is_kl, is_kl, is_kl, is_kl, is_kl, is_kl, is_kl, is_kl, is_kl, is_kl, is_kl, is_kl, is_kl, stoY_k, trivial⟩
  ⟨fun f s W hT d j k m a => OpDo.l LeY.of_below (opl rfl rfl rfl (a.v 1 k2_1) (hT.keep.block _ _ (by omega) b2_0) Try.underlying95 rfl (by kernel_rfl) rfl),
  fun f s W hT d j k m a => OpDo.l LeY.of_below (opv rfl rfl (by simp [go_sem, a.e 4 k2_4]) rfl),
  fun f s W hT d j k m a => OpDo.l LeY.of_below (by have n := Below.trans fB2 (hT.keep.below (by omega) (fB2).size); exact opc rfl rfl (by simp [go_sem, a.e 6 (d 0 rfl), a.e 7 (d 1 rfl)]) (moist_1_1 ps qs bp oP np cp bq oq nq cq tx ux cx tf uf cf pa0 pa1 pa2 fa0 PA0 PA1 PA2 FA0 wh qv0 sa ma oa W (hP.below n) (hQ.below n) hpi hqi np1 np8 nq1 nq4 (hX.below n (Nat.le_refl _)) (hF.below n (Nat.le_refl _)) hpa0 epa0 hpa1 epa1 hpa2 epa2 hfa0 efa0 hk0 hk1 hk2 hwh gwh gw1 hqv0 gqv0 gqd0 gpi0 gwp hsa gsa hma gma hoa hva0 hva1 hva2)),
  fun f s W hT d j k m a => OpDo.l LeY.of_below (opl rfl rfl rfl (a.v 1 k2_1) (hT.keep.block _ _ (by omega) b2_0) Try.underlying95 rfl (by kernel_rfl) rfl),
  fun f s W hT d j k m a => OpDo.l LeY.of_below (opv rfl rfl (by simp [go_sem, a.e 5 k2_5]) rfl),
  fun f s W hT d j k m a => OpDo.l LeY.of_below (by have n := Below.trans fB2 (hT.keep.below (by omega) (fB2).size); exact opc rfl rfl (by simp [go_sem, a.e 9 (d 3 rfl), a.e 10 (d 4 rfl)]) (moist_1_2 ps qs bp oP np cp bq oq nq cq tx ux cx tf uf cf pa0 pa1 pa2 fa0 PA0 PA1 PA2 FA0 wh qv0 sb mb ob W (hP.below n) (hQ.below n) hpi hqi np1 np8 nq1 nq4 (hX.below n (Nat.le_refl _)) (hF.below n (Nat.le_refl _)) hpa0 epa0 hpa1 epa1 hpa2 epa2 hfa0 efa0 hk0 hk1 hk2 hwh gwh gw1 hqv0 gqv0 gqd0 gpi0 gwp hsb gsb hmb gmb hob hvb0 hvb1 hvb2)),
  fun f s W hT d j k m a => OpDo.l LeY.of_below (opv rfl rfl (by simp [go_sem, a.e 8 (d 2 rfl), a.e 11 (d 5 rfl)]) rfl),
  fun f s W hT d j k m a => OpDo.l LeY.of_below (opl rfl rfl rfl (a.v 1 k2_1) (hT.keep.block _ _ (by omega) b2_0) Try.underlying95 rfl (by kernel_rfl) rfl),
  fun f s W hT d j k m a => OpDo.l LeY.of_below (opv rfl rfl (by simp [go_sem, a.e 4 k2_4]) rfl),
  fun f s W hT d j k m a => OpDo.l LeY.of_below (by have n := Below.trans fB2 (hT.keep.below (by omega) (fB2).size); exact opd rfl rfl (by simp [go_sem, a.e 13 (d 7 rfl), a.e 14 (d 8 rfl)]) (caliper_1_1 ps qs bp oP np cp bq oq nq cq tx ux cx tf uf cf pa0 pa1 pa2 fa0 PA0 PA1 PA2 FA0 wh W (hP.below n) (hQ.below n) hpi hqi np1 np8 nq1 nq4 (hX.below n (Nat.le_refl _)) (hF.below n (Nat.le_refl _)) hpa0 epa0 hpa1 epa1 hpa2 epa2 hfa0 efa0 hk0 hk1 hk2 hwh gwh gw1) ((fun e W' h => by have h1 := h.1; rw [hka] at h1; exact ⟨_, h1, h.2, rfl⟩))),
  fun f s W hT d j k m a => OpDo.l LeY.of_below (opl rfl rfl rfl (a.v 1 k2_1) (hT.keep.block _ _ (by omega) b2_0) Try.underlying95 rfl (by kernel_rfl) rfl),
  fun f s W hT d j k m a => OpDo.l LeY.of_below (opv rfl rfl (by simp [go_sem, a.e 5 k2_5]) rfl),
  fun f s W hT d j k m a => OpDo.l LeY.of_below (by have n := Below.trans fB2 (hT.keep.below (by omega) (fB2).size); exact opd rfl rfl (by simp [go_sem, a.e 16 (d 10 rfl), a.e 17 (d 11 rfl)]) (caliper_1_2 ps qs bp oP np cp bq oq nq cq tx ux cx tf uf cf pa0 pa1 pa2 fa0 PA0 PA1 PA2 FA0 wh W (hP.below n) (hQ.below n) hpi hqi np1 np8 nq1 nq4 (hX.below n (Nat.le_refl _)) (hF.below n (Nat.le_refl _)) hpa0 epa0 hpa1 epa1 hpa2 epa2 hfa0 efa0 hk0 hk1 hk2 hwh gwh gw1) ((fun e W' h => by have h1 := h.1; rw [hkb] at h1; exact ⟨_, h1, h.2, rfl⟩))),
  fun f s W hT d j k m a => OpDo.l LeY.of_below (opv rfl rfl (by simp [go_sem, a.e 15 (d 9 rfl), a.e 18 (d 12 rfl)]) rfl),
  fun f s W hT d j k m a => stoY_do (s := s) rfl hT b2_1 (a.v 2 k2_2) (a.v 12 (d 6 rfl)) rfl rfl (by rfl) (by rfl), trivial⟩ ?_
 intro f3 s3 W3 hB3
 have fB3 : Below w.heap.size w W3 := Below.trans fB2 (hB3.le.keep.below (by omega) (fB2).size)
 have z3 : W2.heap.size ≤ W3.heap.size := hB3.le.keep.size
 have b3_1 : W3.heap[(s1 1)]? = some (.cells #[.int .i64 ma, .int .i64 mb] 62 (0, 0)) := hB3.is 14
 have b3_2 := hB3.le.keep.block _ _ (by omega) b2_2
 generalize hg3 : ov [(6, 0), (7, 1), (8, 2), (9, 3), (10, 4), (11, 5), (12, 6), (13, 7), (14, 8), (15, 9), (16, 10), (17, 11), (18, 12), (19, 13)] f3 g2 = g3
 have k3_2 := kt hg3 2 k2_2
 have k3_3 := kt hg3 3 (kt hg2 3 (kt hg1 3 r1_2))
 have k3_19 := kt hg3 19 (hB3.is 13)
 obtain ⟨W4, hW4⟩ : ∃ W', W' = W3.setRow (s1 2) #[.int .i64 ka, .int .i64 kb] := ⟨_, rfl⟩
 refine tsk (o := _) rfl ⟨rfl, rfl⟩ (run_seg hW4 (fr_ev k3_3) (fr_ev k3_19) b3_2 rfl rfl rfl rfl) ?_
 obtain ⟨fB4, nb4, ot4, z4⟩ := sgf hW4 fB3 b3_2 (by omega)
 clear hW4
 have b4_1 := ot4 _ _ (by omega) b3_1
 refine wpe ?_
 refine hK3 _ _ ?_
 refine wp_ret ?_
 refine leave_gen (v := .tuple #[.agg #[.int .i64 ma, .int .i64 mb], .agg #[.int .i64 ka, .int .i64 kb]]) (.inr rfl) (by simp [results, Try.results34, go_sem, frv 20 k3_2, cl b4_1 0, cl b4_1 1, frv 20 k3_3, cl nb4 0, cl nb4 1]) ?_
 exact ⟨rfl, fB4⟩
theorem Measure_1 (ps : Nat → Pa) (qs : Nat → Fu) (bp oP np cp bq oq nq cq : Nat) (tx ux cx tf uf cf pa0 pa1 pa2 fa0 : Nat) (PA0 PA1 PA2 : Pa) (FA0 : Fu) (wh : Int) (qv0 : Int) (sa sb ma mb ka kb : Int) (oa ob : Nat → Int) (w : World) (hP : PaR w bp oP np ps) (hQ : FuR w bq oq nq qs) (hpi : ∀ i, i < np → PaIn (ps i)) (hqi : ∀ i, i < nq → FuIn (qs i)) (np1 : 1 ≤ np) (np8 : np ≤ 8) (nq1 : 1 ≤ nq) (nq4 : nq ≤ 4) (hX : Ii w (some ⟨tx, ux, none⟩) 3 cx [(pa0 : Int), (pa1 : Int), (pa2 : Int)]) (hF : Ii w (some ⟨tf, uf, none⟩) 1 cf [(fa0 : Int)]) (hpa0 : pa0 < np) (epa0 : ps pa0 = PA0) (hpa1 : pa1 < np) (epa1 : ps pa1 = PA1) (hpa2 : pa2 < np) (epa2 : ps pa2 = PA2) (hfa0 : fa0 < nq) (efa0 : qs fa0 = FA0) (hk0 : PA0.kind = 1) (hk1 : PA1.kind = 2) (hk2 : PA2.kind = 1) (hwh : FA0.pitch = wh) (gwh : 0 ≤ wh ∧ wh ≤ 100000000) (gw1 : 0 ≤ FA0.pitch ∧ FA0.pitch ≤ 10000) (hqv0 : wh / FA0.pitch = qv0) (gqv0 : 0 ≤ qv0 ∧ qv0 ≤ 100000000) (gqd0 : 0 ≤ qv0 * FA0.draw ∧ qv0 * FA0.draw ≤ 200000000) (gpi0 : 1000 ≤ FA0.pitch ∧ FA0.pitch ≤ 10000) (gwp : 1 ≤ wh) (hsa : sumS oa (fun i => [wh, qv0 * FA0.draw, wh].getD i 0) 3 = sa) (gsa : 0 ≤ sa ∧ sa ≤ 10000000000000000) (hma : sa / (1000 * wh) = ma) (gma : 0 ≤ ma ∧ ma ≤ 10000000000000000) (hoa : ∀ i, i < 3 → 0 ≤ oa i ∧ oa i ≤ 1200000) (hka : (PA0.t1 + PA2.t1) + FA0.h1 = ka) (hva0 : PA0.weight * (1000 + PA0.m1) = oa 0) (hva1 : PA1.weight * (1000 + PA1.m1) = oa 1) (hva2 : PA2.weight * (1000 + PA2.m1) = oa 2) (hsb : sumS ob (fun i => [wh, qv0 * FA0.draw, wh].getD i 0) 3 = sb) (gsb : 0 ≤ sb ∧ sb ≤ 10000000000000000) (hmb : sb / (1000 * wh) = mb) (gmb : 0 ≤ mb ∧ mb ≤ 10000000000000000) (hob : ∀ i, i < 3 → 0 ≤ ob i ∧ ob i ≤ 1200000) (hkb : (PA0.t2 + PA2.t2) + FA0.h2 = kb) (hvb0 : PA0.weight * (1000 + PA0.m2) = ob 0) (hvb1 : PA1.weight * (1000 + PA1.m2) = ob 1) (hvb2 : PA2.weight * (1000 + PA2.m2) = ob 2) :
  Calls Try.prog 14 #[.agg #[.slice (some ⟨bp, oP, none⟩) np cp, .slice (some ⟨bq, oq, none⟩) nq cq], .agg #[.slice (some ⟨tx, ux, none⟩) 3 cx, .slice (some ⟨tf, uf, none⟩) 1 cf]] w (fun e w' => e = .returned (.tuple #[.agg #[.int .i64 ma, .int .i64 mb], .agg #[.int .i64 ka, .int .i64 kb], .int .i64 0]) ∧ Below w.heap.size w w') := by
 refine calls_fr Try.func14 Try.ntmps14 rfl rfl fun g hg => ?_
 have k0 : g 0 = .agg #[.slice (some ⟨bp, oP, none⟩) np cp, .slice (some ⟨bq, oq, none⟩) nq cq] := hg 0
 have k1 : g 1 = .agg #[.slice (some ⟨tx, ux, none⟩) 3 cx, .slice (some ⟨tf, uf, none⟩) 1 cf] := hg 1
 clear hg
 have fB0 : Below w.heap.size w w := Below.refl _ _
 refine rw_ 5 [(2, 0), (3, 1), (4, 2), (5, 3), (6, 4)] [[], [], [], [], []] (rel [bx 0 #[.slice (some ⟨bp, oP, none⟩) np cp, .slice (some ⟨bq, oq, none⟩) nq cq] 68, bx 1 #[.slice (some ⟨tx, ux, none⟩) 3 cx, .slice (some ⟨tf, uf, none⟩) 1 cf] 71, bx 2 #[.int .i64 0, .int .i64 0] 62, bx 3 #[.int .i64 0, .int .i64 0] 62, iI 0])
  ⟨fun f s W c d h j k a => opb rfl rfl (by simp [go_sem, a.e 0 k0]),
  fun f s W c d h j k a => opb rfl rfl (by simp [go_sem, a.e 1 k1]),
  fun f s W c d h j k a => opb rfl rfl (by simp [go_sem]),
  fun f s W c d h j k a => opb rfl rfl (by simp [go_sem]),
  fun f s W c d h j k a => opz, trivial⟩ ?_
 intro f1 s1 W1 hB1 g1 hg1 z1
 have fB1 := hB1.f fB0
 obtain ⟨r1_0, br1_0⟩ := hB1.is 0
 have lr1_0 := hB1.lr 0 br1_0
 obtain ⟨r1_1, br1_1⟩ := hB1.is 1
 have lr1_1 := hB1.lr 1 br1_1
 obtain ⟨r1_2, br1_2⟩ := hB1.is 2
 have lr1_2 := hB1.lr 2 br1_2
 obtain ⟨r1_3, br1_3⟩ := hB1.is 3
 have lr1_3 := hB1.lr 3 br1_3
 have ne1_0_1 := hB1.nb 0 1
 have ne1_0_2 := hB1.nb 0 2
 have ne1_1_2 := hB1.nb 1 2
 have ne1_0_3 := hB1.nb 0 3
 have ne1_1_3 := hB1.nb 1 3
 have ne1_2_3 := hB1.nb 2 3
 have k1_2 := kt hg1 2 r1_0
 have k1_3 := kt hg1 3 r1_1
 refine wp_seq_k fun K2 hK2 => ?_
 refine ry 7 [(9, 0), (10, 1), (11, 2), (8, 3), (12, 4), (13, 5), (7, 6), (6, 8)] [[], [], [0, 1], [2], [3], [3], [], [0, 1, 2, 3, 4, 6], [0, 1, 2, 3, 4, 5, 6, 7]] (rel [is (.agg #[.slice (some ⟨bp, oP, none⟩) np cp, .slice (some ⟨bq, oq, none⟩) nq cq]), is (.agg #[.slice (some ⟨tx, ux, none⟩) 3 cx, .slice (some ⟨tf, uf, none⟩) 1 cf]), is (.tuple #[.agg #[.slice (some ⟨tx, ux, none⟩) 3 cx, .slice (some ⟨tf, uf, none⟩) 1 cf, .slice (some ⟨bp, oP, none⟩) np cp, .slice (some ⟨bq, oq, none⟩) nq cq, .int .i64 wh], .int .i64 0]), is (.tuple #[.agg #[.slice (some ⟨tx, ux, none⟩) 3 cx, .slice (some ⟨tf, uf, none⟩) 1 cf, .slice (some ⟨bp, oP, none⟩) np cp, .slice (some ⟨bq, oq, none⟩) nq cq, .int .i64 wh], .int .i64 0]), is (.agg #[.slice (some ⟨tx, ux, none⟩) 3 cx, .slice (some ⟨tf, uf, none⟩) 1 cf, .slice (some ⟨bp, oP, none⟩) np cp, .slice (some ⟨bq, oq, none⟩) nq cq, .int .i64 wh]), iI 0, bx 6 #[.slice none 0 0, .slice none 0 0, .slice none 0 0, .slice none 0 0, .int .i64 0] 95])
  ⟨fun f s W c d h j k a => opv rfl rfl (by simp [go_sem, a.e 2 k1_2, cb br1_0 c 0, cb br1_0 c 1]) rfl,
  fun f s W c d h j k a => opv rfl rfl (by simp [go_sem, a.e 3 k1_3, cb br1_1 c 0, cb br1_1 c 1]) rfl,
  fun f s W c d h j k a => by have l := bwt fB1 c; exact opc rfl rfl (by simp [go_sem, a.e 9 (d 0 rfl), a.e 10 (d 1 rfl)]) (newSheet_1 ps qs bp oP np cp bq oq nq cq tx ux cx tf uf cf pa0 pa1 pa2 fa0 PA0 PA1 PA2 FA0 wh W (hP.below l) (hQ.below l) hpi hqi np1 np8 nq1 nq4 (hX.below l (Nat.le_refl _)) (hF.below l (Nat.le_refl _)) hpa0 epa0 hpa1 epa1 hpa2 epa2 hfa0 efa0 hk0 hk1 hk2 hwh gwh gw1),
  fun f s W c d h j k a => opm (a.v 11 (d 2 rfl)),
  fun f s W c d h j k a => opv rfl rfl (by simp [go_sem, a.e 8 (d 3 rfl)]) rfl,
  fun f s W c d h j k a => opv rfl rfl (by simp [go_sem, a.e 8 (d 3 rfl)]) rfl,
  fun f s W c d h j k a => opb rfl rfl (by simp [go_sem]), trivial⟩ ?_
 intro f2 s2 W2 hB2 g2 hg2 z2
 have fB2 := hB2.f fB1
 have b2_2 := hB2.b br1_2
 have b2_3 := hB2.b br1_3
 obtain ⟨r2_6, br2_6⟩ := hB2.is 6
 have lr2_6 := hB2.lr 6 br2_6
 have k2_12 := kt hg2 12 (hB2.is 4)
 have k2_13 := kt hg2 13 (hB2.is 5)
 have k2_7 := kt hg2 7 r2_6
 obtain ⟨W3, hW3⟩ : ∃ W', W' = W2.setRow (s2 6) #[.slice (some ⟨tx, ux, none⟩) 3 cx, .slice (some ⟨tf, uf, none⟩) 1 cf, .slice (some ⟨bp, oP, none⟩) np cp, .slice (some ⟨bq, oq, none⟩) nq cq, .int .i64 wh] := ⟨_, rfl⟩
 refine tsk (o := _) rfl ⟨rfl, rfl⟩ (run_seg hW3 (fr_ev k2_7) (fr_ev k2_12) br2_6 rfl rfl rfl rfl) ?_
 obtain ⟨fB3, nb3, ot3, z3⟩ := sgf hW3 fB2 br2_6 (by omega)
 clear hW3
 have b3_2 := ot3 _ _ (by omega) b2_2
 have b3_3 := ot3 _ _ (by omega) b2_3
 refine tail_value (o := _) rfl rfl rfl (v := .int .i64 0) (by simp [go_sem, frv 26 k2_13]) ?_
 generalize hg4 : upd g2 6 (.int .i64 0) = g4
 have k4_6 := kt hg4 6 (upd_same _ _ _)
 refine wpe ?_
 refine hK2 _ _ ?_
 refine wp_seq_k fun K3 hK3 => ?_
 refine rw_ 2 [(14, 0), (15, 1)] [[], [0]] (rel [iI 0, iB false])
  ⟨fun f s W c d h j k a => opm (a.v 6 k4_6),
  fun f s W c d h j k a => opv rfl rfl (by simp [go_sem, a.e 14 (d 0 rfl)]) rfl, trivial⟩ ?_
 intro f5 s5 W5 hB5 g5 hg5 z5
 have fB5 := hB5.f fB3
 have b5_4 := hB5.b nb3
 have k5_7 := kt hg5 7 (ku hg4 7 k2_7)
 have k5_15 := kt hg5 15 (hB5.is 1)
 refine wp_cond_false ((fr_eval rfl).trans k5_15) ?_
 refine wp_skip ?_
 refine hK3 _ _ ?_
 refine wp_seq_k fun K6 hK6 => ?_
 refine ry 5 [(20, 0), (21, 1), (19, 2), (22, 3), (23, 4)] [[], [0], [1], [2], [2], [0, 1, 2, 3], [0, 1, 2, 3, 4, 5]] (rel [is (.agg #[.slice (some ⟨tx, ux, none⟩) 3 cx, .slice (some ⟨tf, uf, none⟩) 1 cf, .slice (some ⟨bp, oP, none⟩) np cp, .slice (some ⟨bq, oq, none⟩) nq cq, .int .i64 wh]), is (.tuple #[.agg #[.int .i64 ma, .int .i64 mb], .agg #[.int .i64 ka, .int .i64 kb]]), is (.tuple #[.agg #[.int .i64 ma, .int .i64 mb], .agg #[.int .i64 ka, .int .i64 kb]]), is (.agg #[.int .i64 ma, .int .i64 mb]), is (.agg #[.int .i64 ka, .int .i64 kb])])
  ⟨fun f s W c d h j k a => opl rfl rfl rfl (a.v 7 k5_7) (bwb b5_4 c) Try.underlying95 rfl (by kernel_rfl) rfl,
  fun f s W c d h j k a => by have l := bwt fB5 c; exact opc rfl rfl (by simp [go_sem, a.e 20 (d 0 rfl)]) (measure_1 ps qs bp oP np cp bq oq nq cq tx ux cx tf uf cf pa0 pa1 pa2 fa0 PA0 PA1 PA2 FA0 wh qv0 sa sb ma mb ka kb oa ob W (hP.below l) (hQ.below l) hpi hqi np1 np8 nq1 nq4 (hX.below l (Nat.le_refl _)) (hF.below l (Nat.le_refl _)) hpa0 epa0 hpa1 epa1 hpa2 epa2 hfa0 efa0 hk0 hk1 hk2 hwh gwh gw1 hqv0 gqv0 gqd0 gpi0 gwp hsa gsa hma gma hoa hka hva0 hva1 hva2 hsb gsb hmb gmb hob hkb hvb0 hvb1 hvb2),
  fun f s W c d h j k a => opm (a.v 21 (d 1 rfl)),
  fun f s W c d h j k a => opv rfl rfl (by simp [go_sem, a.e 19 (d 2 rfl)]) rfl,
  fun f s W c d h j k a => opv rfl rfl (by simp [go_sem, a.e 19 (d 2 rfl)]) rfl, trivial⟩ ?_
 intro f6 s6 W6 hB6 g6 hg6 z6
 have fB6 := hB6.f fB5
 have b6_2 := hB6.b (hB5.b b3_2)
 have b6_3 := hB6.b (hB5.b b3_3)
 have k6_4 := kt hg6 4 (kt hg5 4 (ku hg4 4 (kt hg2 4 (kt hg1 4 r1_2))))
 have k6_5 := kt hg6 5 (kt hg5 5 (ku hg4 5 (kt hg2 5 (kt hg1 5 r1_3))))
 have k6_22 := kt hg6 22 (hB6.is 3)
 have k6_23 := kt hg6 23 (hB6.is 4)
 obtain ⟨W7, hW7⟩ : ∃ W', W' = W6.setRow (s1 2) #[.int .i64 ma, .int .i64 mb] := ⟨_, rfl⟩
 refine tsk (o := _) rfl ⟨rfl, rfl⟩ (run_seg hW7 (fr_ev k6_4) (fr_ev k6_22) b6_2 rfl rfl rfl rfl) ?_
 obtain ⟨fB7, nb7, ot7, z7⟩ := sgf hW7 fB6 b6_2 (by omega)
 clear hW7
 have b7_3 := ot7 _ _ (by omega) b6_3
 obtain ⟨W8, hW8⟩ : ∃ W', W' = W7.setRow (s1 3) #[.int .i64 ka, .int .i64 kb] := ⟨_, rfl⟩
 refine tsk (o := _) rfl ⟨rfl, rfl⟩ (run_seg hW8 (fr_ev k6_5) (fr_ev k6_23) b7_3 rfl rfl rfl rfl) ?_
 obtain ⟨fB8, nb8, ot8, z8⟩ := sgf hW8 fB7 b7_3 (by omega)
 clear hW8
 have b8_2 := ot8 _ _ (by omega) nb7
 refine wpe ?_
 refine hK6 _ _ ?_
 refine rw_ 5 [(24, 0), (25, 1), (6, 4)] [[], [], [0], [1], []] (rel [is (.agg #[.int .i64 ma, .int .i64 mb]), is (.agg #[.int .i64 ka, .int .i64 kb]), is (undef), is (undef), iI 0])
  ⟨fun f s W c d h j k a => opv rfl rfl (by simp [go_sem, a.e 4 k6_4, cb b8_2 c 0, cb b8_2 c 1]) rfl,
  fun f s W c d h j k a => opv rfl rfl (by simp [go_sem, a.e 5 k6_5, cb nb8 c 0, cb nb8 c 1]) rfl,
  fun f s W c d h j k a => ops_same rfl ⟨rfl, rfl⟩ (run_seg (setRow_self W _ _ _ _ (bwb b8_2 c)).symm (a.v 4 k6_4) (a.v 24 (d 0 rfl)) (bwb b8_2 c) rfl rfl rfl rfl),
  fun f s W c d h j k a => ops_same rfl ⟨rfl, rfl⟩ (run_seg (setRow_self W _ _ _ _ (bwb nb8 c)).symm (a.v 5 k6_5) (a.v 25 (d 1 rfl)) (bwb nb8 c) rfl rfl rfl rfl),
  fun f s W c d h j k a => opz, trivial⟩ ?_
 intro f9 s9 W9 hB9 g9 hg9 z9
 have fB9 := hB9.f fB8
 have b9_2 := hB9.b b8_2
 have b9_3 := hB9.b nb8
 have k9_4 := kt hg9 4 k6_4
 have k9_5 := kt hg9 5 k6_5
 have k9_6 := kt hg9 6 (hB9.is 4)
 refine wp_ret ?_
 refine leave_gen (v := .tuple #[.agg #[.int .i64 ma, .int .i64 mb], .agg #[.int .i64 ka, .int .i64 kb], .int .i64 0]) (.inr rfl) (by simp [results, Try.results14, go_sem, frv 26 k9_4, cl b9_2 0, cl b9_2 1, frv 26 k9_5, cl b9_3 0, cl b9_3 1, frv 26 k9_6]) ?_
 exact ⟨rfl, fB9⟩
theorem measure_2 (ps : Nat → Pa) (qs : Nat → Fu) (bp oP np cp bq oq nq cq : Nat) (tx ux cx tf uf cf pa0 pa1 pa2 pa3 pa4 fa0 fa1 : Nat) (PA0 PA1 PA2 PA3 PA4 : Pa) (FA0 FA1 : Fu) (wh : Int) (qv0 qv1 : Int) (sa sb ma mb ka kb : Int) (oa ob : Nat → Int) (w : World) (hP : PaR w bp oP np ps) (hQ : FuR w bq oq nq qs) (hpi : ∀ i, i < np → PaIn (ps i)) (hqi : ∀ i, i < nq → FuIn (qs i)) (np1 : 1 ≤ np) (np8 : np ≤ 8) (nq1 : 1 ≤ nq) (nq4 : nq ≤ 4) (hX : Ii w (some ⟨tx, ux, none⟩) 5 cx [(pa0 : Int), (pa1 : Int), (pa2 : Int), (pa3 : Int), (pa4 : Int)]) (hF : Ii w (some ⟨tf, uf, none⟩) 2 cf [(fa0 : Int), (fa1 : Int)]) (hpa0 : pa0 < np) (epa0 : ps pa0 = PA0) (hpa1 : pa1 < np) (epa1 : ps pa1 = PA1) (hpa2 : pa2 < np) (epa2 : ps pa2 = PA2) (hpa3 : pa3 < np) (epa3 : ps pa3 = PA3) (hpa4 : pa4 < np) (epa4 : ps pa4 = PA4) (hfa0 : fa0 < nq) (efa0 : qs fa0 = FA0) (hfa1 : fa1 < nq) (efa1 : qs fa1 = FA1) (hk0 : PA0.kind = 1) (hk1 : PA1.kind = 2) (hk2 : PA2.kind = 1) (hk3 : PA3.kind = 2) (hk4 : PA4.kind = 1) (hwh : FA0.pitch * FA1.pitch = wh) (gwh : 0 ≤ wh ∧ wh ≤ 100000000) (gw1 : 0 ≤ FA0.pitch ∧ FA0.pitch ≤ 10000) (hqv0 : wh / FA0.pitch = qv0) (gqv0 : 0 ≤ qv0 ∧ qv0 ≤ 100000000) (gqd0 : 0 ≤ qv0 * FA0.draw ∧ qv0 * FA0.draw ≤ 200000000) (gpi0 : 1000 ≤ FA0.pitch ∧ FA0.pitch ≤ 10000) (hqv1 : wh / FA1.pitch = qv1) (gqv1 : 0 ≤ qv1 ∧ qv1 ≤ 100000000) (gqd1 : 0 ≤ qv1 * FA1.draw ∧ qv1 * FA1.draw ≤ 200000000) (gpi1 : 1000 ≤ FA1.pitch ∧ FA1.pitch ≤ 10000) (gwp : 1 ≤ wh) (hsa : sumS oa (fun i => [wh, qv0 * FA0.draw, wh, qv1 * FA1.draw, wh].getD i 0) 5 = sa) (gsa : 0 ≤ sa ∧ sa ≤ 10000000000000000) (hma : sa / (1000 * wh) = ma) (gma : 0 ≤ ma ∧ ma ≤ 10000000000000000) (hoa : ∀ i, i < 5 → 0 ≤ oa i ∧ oa i ≤ 1200000) (hka : (((PA0.t1 + PA2.t1) + PA4.t1) + FA0.h1) + FA1.h1 = ka) (hva0 : PA0.weight * (1000 + PA0.m1) = oa 0) (hva1 : PA1.weight * (1000 + PA1.m1) = oa 1) (hva2 : PA2.weight * (1000 + PA2.m1) = oa 2) (hva3 : PA3.weight * (1000 + PA3.m1) = oa 3) (hva4 : PA4.weight * (1000 + PA4.m1) = oa 4) (hsb : sumS ob (fun i => [wh, qv0 * FA0.draw, wh, qv1 * FA1.draw, wh].getD i 0) 5 = sb) (gsb : 0 ≤ sb ∧ sb ≤ 10000000000000000) (hmb : sb / (1000 * wh) = mb) (gmb : 0 ≤ mb ∧ mb ≤ 10000000000000000) (hob : ∀ i, i < 5 → 0 ≤ ob i ∧ ob i ≤ 1200000) (hkb : (((PA0.t2 + PA2.t2) + PA4.t2) + FA0.h2) + FA1.h2 = kb) (hvb0 : PA0.weight * (1000 + PA0.m2) = ob 0) (hvb1 : PA1.weight * (1000 + PA1.m2) = ob 1) (hvb2 : PA2.weight * (1000 + PA2.m2) = ob 2) (hvb3 : PA3.weight * (1000 + PA3.m2) = ob 3) (hvb4 : PA4.weight * (1000 + PA4.m2) = ob 4) :
  Calls Try.prog 34 #[.agg #[.slice (some ⟨tx, ux, none⟩) 5 cx, .slice (some ⟨tf, uf, none⟩) 2 cf, .slice (some ⟨bp, oP, none⟩) np cp, .slice (some ⟨bq, oq, none⟩) nq cq, .int .i64 wh]] w (fun e w' => e = .returned (.tuple #[.agg #[.int .i64 ma, .int .i64 mb], .agg #[.int .i64 ka, .int .i64 kb]]) ∧ Below w.heap.size w w') := by
 refine calls_fr Try.func34 Try.ntmps34 rfl rfl fun g hg => ?_
 have k0 : g 0 = .agg #[.slice (some ⟨tx, ux, none⟩) 5 cx, .slice (some ⟨tf, uf, none⟩) 2 cf, .slice (some ⟨bp, oP, none⟩) np cp, .slice (some ⟨bq, oq, none⟩) nq cq, .int .i64 wh] := hg 0
 clear hg
 have fB0 : Below w.heap.size w w := Below.refl _ _
 refine rw_ 3 [(1, 0), (2, 1), (3, 2)] [[], [], []] (rel [bx 0 #[.slice (some ⟨tx, ux, none⟩) 5 cx, .slice (some ⟨tf, uf, none⟩) 2 cf, .slice (some ⟨bp, oP, none⟩) np cp, .slice (some ⟨bq, oq, none⟩) nq cq, .int .i64 wh] 95, bx 1 #[.int .i64 0, .int .i64 0] 62, bx 2 #[.int .i64 0, .int .i64 0] 62])
  ⟨fun f s W c d j k m a => opb rfl rfl (by simp [go_sem, a.e 0 k0]),
  fun f s W c d j k m a => opb rfl rfl (by simp [go_sem]),
  fun f s W c d j k m a => opb rfl rfl (by simp [go_sem]), trivial⟩ ?_
 intro f1 s1 W1 hB1 g1 hg1 z1
 obtain ⟨r1_0, br1_0⟩ := hB1.is 0
 have lr1_0 := hB1.lr 0 br1_0
 obtain ⟨r1_1, br1_1⟩ := hB1.is 1
 have lr1_1 := hB1.lr 1 br1_1
 obtain ⟨r1_2, br1_2⟩ := hB1.is 2
 have lr1_2 := hB1.lr 2 br1_2
 have ne1_0_1 := hB1.nb 0 1
 have ne1_0_2 := hB1.nb 0 2
 have ne1_1_2 := hB1.nb 1 2
 refine rw_ 2 [(4, 0), (5, 1)] [[], []] (rel [is (.func (.func 56) #[] #[]), is (.func (.func 57) #[] #[])])
  ⟨fun f s W c d j k m a => opv rfl rfl (by simp [go_sem]) rfl,
  fun f s W c d j k m a => opv rfl rfl (by simp [go_sem]) rfl, trivial⟩ ?_
 intro f2 s2 W2 hB2 g2 hg2 z2
 have fB2 := hB2.f (hB1.f fB0)
 have b2_0 := hB2.b br1_0
 have b2_1 := hB2.b br1_1
 have b2_2 := hB2.b br1_2
 have k2_1 := kt hg2 1 (kt hg1 1 r1_0)
 have k2_2 := kt hg2 2 (kt hg1 2 r1_1)
 have k2_4 := kt hg2 4 (hB2.is 0)
 have k2_5 := kt hg2 5 (hB2.is 1)
 refine wp_seq_k fun K3 hK3 => ?_
 refine region_doL (LeY (s1 1) 62 #[.int .i64 ma, .int .i64 mb]) LeY.refl LeY.drew LeY.trans (fun _ _ h => h.keep.size) 15 [(6, 0), (7, 1), (8, 2), (9, 3), (10, 4), (11, 5), (12, 6), (13, 7), (14, 8), (15, 9), (16, 10), (17, 11), (18, 12), (19, 13)] [[], [], [0, 1], [], [], [0, 1, 2, 3, 4], [0, 1, 2, 3, 4, 5], [], [], [0, 1, 2, 3, 4, 5, 7, 8], [], [], [0, 1, 2, 3, 4, 5, 7, 8, 9, 10, 11], [0, 1, 2, 3, 4, 5, 7, 8, 9, 10, 11, 12], [0, 1, 2, 3, 4, 5, 6, 7, 8, 9, 10, 11, 12], [0, 1, 2, 3, 4, 5, 6, 7, 8, 9, 10, 11, 12, 13, 14]] (rel [is (.agg #[.slice (some ⟨tx, ux, none⟩) 5 cx, .slice (some ⟨tf, uf, none⟩) 2 cf, .slice (some ⟨bp, oP, none⟩) np cp, .slice (some ⟨bq, oq, none⟩) nq cq, .int .i64 wh]),
   is (.func (.func 56) #[] #[]),
   is (.int .i64 ma),
   is (.agg #[.slice (some ⟨tx, ux, none⟩) 5 cx, .slice (some ⟨tf, uf, none⟩) 2 cf, .slice (some ⟨bp, oP, none⟩) np cp, .slice (some ⟨bq, oq, none⟩) nq cq, .int .i64 wh]),
   is (.func (.func 57) #[] #[]),
   is (.int .i64 mb),
   is (.agg #[.int .i64 ma, .int .i64 mb]),
   is (.agg #[.slice (some ⟨tx, ux, none⟩) 5 cx, .slice (some ⟨tf, uf, none⟩) 2 cf, .slice (some ⟨bp, oP, none⟩) np cp, .slice (some ⟨bq, oq, none⟩) nq cq, .int .i64 wh]),
   is (.func (.func 56) #[] #[]),
   is (.int .i64 ka),
   is (.agg #[.slice (some ⟨tx, ux, none⟩) 5 cx, .slice (some ⟨tf, uf, none⟩) 2 cf, .slice (some ⟨bp, oP, none⟩) np cp, .slice (some ⟨bq, oq, none⟩) nq cq, .int .i64 wh]),
   is (.func (.func 57) #[] #[]),
   is (.int .i64 kb),
   is (.agg #[.int .i64 ka, .int .i64 kb]),
   stoY (s1 1) 62 #[.int .i64 ma, .int .i64 mb]]) (by kernel_rfl) (by kernel_rfl) (by kernel_rfl) (by kernel_rfl)
  ⟨is_kl, is_kl, is_kl, is_kl, is_kl, is_kl, is_kl, is_kl, is_kl, is_kl, is_kl, is_kl, is_kl, is_kl, stoY_k, trivial⟩
  ⟨fun f s W hT d j k m a => OpDo.l LeY.of_below (opl rfl rfl rfl (a.v 1 k2_1) (hT.keep.block _ _ (by omega) b2_0) Try.underlying95 rfl (by kernel_rfl) rfl),
  fun f s W hT d j k m a => OpDo.l LeY.of_below (opv rfl rfl (by simp [go_sem, a.e 4 k2_4]) rfl),
  fun f s W hT d j k m a => OpDo.l LeY.of_below (by have n := Below.trans fB2 (hT.keep.below (by omega) (fB2).size); exact opc rfl rfl (by simp [go_sem, a.e 6 (d 0 rfl), a.e 7 (d 1 rfl)]) (moist_2_1 ps qs bp oP np cp bq oq nq cq tx ux cx tf uf cf pa0 pa1 pa2 pa3 pa4 fa0 fa1 PA0 PA1 PA2 PA3 PA4 FA0 FA1 wh qv0 qv1 sa ma oa W (hP.below n) (hQ.below n) hpi hqi np1 np8 nq1 nq4 (hX.below n (Nat.le_refl _)) (hF.below n (Nat.le_refl _)) hpa0 epa0 hpa1 epa1 hpa2 epa2 hpa3 epa3 hpa4 epa4 hfa0 efa0 hfa1 efa1 hk0 hk1 hk2 hk3 hk4 hwh gwh gw1 hqv0 gqv0 gqd0 gpi0 hqv1 gqv1 gqd1 gpi1 gwp hsa gsa hma gma hoa hva0 hva1 hva2 hva3 hva4)),
  fun f s W hT d j k m a => OpDo.l LeY.of_below (opl rfl rfl rfl (a.v 1 k2_1) (hT.keep.block _ _ (by omega) b2_0) Try.underlying95 rfl (by kernel_rfl) rfl),
  fun f s W hT d j k m a => OpDo.l LeY.of_below (opv rfl rfl (by simp [go_sem, a.e 5 k2_5]) rfl),
  fun f s W hT d j k m a => OpDo.l LeY.of_below (by have n := Below.trans fB2 (hT.keep.below (by omega) (fB2).size); exact opc rfl rfl (by simp [go_sem, a.e 9 (d 3 rfl), a.e 10 (d 4 rfl)]) (moist_2_2 ps qs bp oP np cp bq oq nq cq tx ux cx tf uf cf pa0 pa1 pa2 pa3 pa4 fa0 fa1 PA0 PA1 PA2 PA3 PA4 FA0 FA1 wh qv0 qv1 sb mb ob W (hP.below n) (hQ.below n) hpi hqi np1 np8 nq1 nq4 (hX.below n (Nat.le_refl _)) (hF.below n (Nat.le_refl _)) hpa0 epa0 hpa1 epa1 hpa2 epa2 hpa3 epa3 hpa4 epa4 hfa0 efa0 hfa1 efa1 hk0 hk1 hk2 hk3 hk4 hwh gwh gw1 hqv0 gqv0 gqd0 gpi0 hqv1 gqv1 gqd1 gpi1 gwp hsb gsb hmb gmb hob hvb0 hvb1 hvb2 hvb3 hvb4)),
  fun f s W hT d j k m a => OpDo.l LeY.of_below (opv rfl rfl (by simp [go_sem, a.e 8 (d 2 rfl), a.e 11 (d 5 rfl)]) rfl),
  fun f s W hT d j k m a => OpDo.l LeY.of_below (opl rfl rfl rfl (a.v 1 k2_1) (hT.keep.block _ _ (by omega) b2_0) Try.underlying95 rfl (by kernel_rfl) rfl),
  fun f s W hT d j k m a => OpDo.l LeY.of_below (opv rfl rfl (by simp [go_sem, a.e 4 k2_4]) rfl),
  fun f s W hT d j k m a => OpDo.l LeY.of_below (by have n := Below.trans fB2 (hT.keep.below (by omega) (fB2).size); exact opd rfl rfl (by simp [go_sem, a.e 13 (d 7 rfl), a.e 14 (d 8 rfl)]) (caliper_2_1 ps qs bp oP np cp bq oq nq cq tx ux cx tf uf cf pa0 pa1 pa2 pa3 pa4 fa0 fa1 PA0 PA1 PA2 PA3 PA4 FA0 FA1 wh W (hP.below n) (hQ.below n) hpi hqi np1 np8 nq1 nq4 (hX.below n (Nat.le_refl _)) (hF.below n (Nat.le_refl _)) hpa0 epa0 hpa1 epa1 hpa2 epa2 hpa3 epa3 hpa4 epa4 hfa0 efa0 hfa1 efa1 hk0 hk1 hk2 hk3 hk4 hwh gwh gw1) ((fun e W' h => by have h1 := h.1; rw [hka] at h1; exact ⟨_, h1, h.2, rfl⟩))),
  fun f s W hT d j k m a => OpDo.l LeY.of_below (opl rfl rfl rfl (a.v 1 k2_1) (hT.keep.block _ _ (by omega) b2_0) Try.underlying95 rfl (by kernel_rfl) rfl),
  fun f s W hT d j k m a => OpDo.l LeY.of_below (opv rfl rfl (by simp [go_sem, a.e 5 k2_5]) rfl),
  fun f s W hT d j k m a => OpDo.l LeY.of_below (by have n := Below.trans fB2 (hT.keep.below (by omega) (fB2).size); exact opd rfl rfl (by simp [go_sem, a.e 16 (d 10 rfl), a.e 17 (d 11 rfl)]) (caliper_2_2 ps qs bp oP np cp bq oq nq cq tx ux cx tf uf cf pa0 pa1 pa2 pa3 pa4 fa0 fa1 PA0 PA1 PA2 PA3 PA4 FA0 FA1 wh W (hP.below n) (hQ.below n) hpi hqi np1 np8 nq1 nq4 (hX.below n (Nat.le_refl _)) (hF.below n (Nat.le_refl _)) hpa0 epa0 hpa1 epa1 hpa2 epa2 hpa3 epa3 hpa4 epa4 hfa0 efa0 hfa1 efa1 hk0 hk1 hk2 hk3 hk4 hwh gwh gw1) ((fun e W' h => by have h1 := h.1; rw [hkb] at h1; exact ⟨_, h1, h.2, rfl⟩))),
  fun f s W hT d j k m a => OpDo.l LeY.of_below (opv rfl rfl (by simp [go_sem, a.e 15 (d 9 rfl), a.e 18 (d 12 rfl)]) rfl),
  fun f s W hT d j k m a => stoY_do (s := s) rfl hT b2_1 (a.v 2 k2_2) (a.v 12 (d 6 rfl)) rfl rfl (by rfl) (by rfl), trivial⟩ ?_
 intro f3 s3 W3 hB3
 have fB3 : Below w.heap.size w W3 := Below.trans fB2 (hB3.le.keep.below (by omega) (fB2).size)
 have z3 : W2.heap.size ≤ W3.heap.size := hB3.le.keep.size
 have b3_1 : W3.heap[(s1 1)]? = some (.cells #[.int .i64 ma, .int .i64 mb] 62 (0, 0)) := hB3.is 14
 have b3_2 := hB3.le.keep.block _ _ (by omega) b2_2
 generalize hg3 : ov [(6, 0), (7, 1), (8, 2), (9, 3), (10, 4), (11, 5), (12, 6), (13, 7), (14, 8), (15, 9), (16, 10), (17, 11), (18, 12), (19, 13)] f3 g2 = g3
 have k3_2 := kt hg3 2 k2_2
 have k3_3 := kt hg3 3 (kt hg2 3 (kt hg1 3 r1_2))
 have k3_19 := kt hg3 19 (hB3.is 13)
 obtain ⟨W4, hW4⟩ : ∃ W', W' = W3.setRow (s1 2) #[.int .i64 ka, .int .i64 kb] := ⟨_, rfl⟩
 refine tsk (o := _) rfl ⟨rfl, rfl⟩ (run_seg hW4 (fr_ev k3_3) (fr_ev k3_19) b3_2 rfl rfl rfl rfl) ?_
 obtain ⟨fB4, nb4, ot4, z4⟩ := sgf hW4 fB3 b3_2 (by omega)
 clear hW4
 have b4_1 := ot4 _ _ (by omega) b3_1
 refine wpe ?_
 refine hK3 _ _ ?_
 refine wp_ret ?_
 refine leave_gen (v := .tuple #[.agg #[.int .i64 ma, .int .i64 mb], .agg #[.int .i64 ka, .int .i64 kb]]) (.inr rfl) (by simp [results, Try.results34, go_sem, frv 20 k3_2, cl b4_1 0, cl b4_1 1, frv 20 k3_3, cl nb4 0, cl nb4 1]) ?_
 exact ⟨rfl, fB4⟩
theorem Measure_2 (ps : Nat → Pa) (qs : Nat → Fu) (bp oP np cp bq oq nq cq : Nat) (tx ux cx tf uf cf pa0 pa1 pa2 pa3 pa4 fa0 fa1 : Nat) (PA0 PA1 PA2 PA3 PA4 : Pa) (FA0 FA1 : Fu) (wh : Int) (qv0 qv1 : Int) (sa sb ma mb ka kb : Int) (oa ob : Nat → Int) (w : World) (hP : PaR w bp oP np ps) (hQ : FuR w bq oq nq qs) (hpi : ∀ i, i < np → PaIn (ps i)) (hqi : ∀ i, i < nq → FuIn (qs i)) (np1 : 1 ≤ np) (np8 : np ≤ 8) (nq1 : 1 ≤ nq) (nq4 : nq ≤ 4) (hX : Ii w (some ⟨tx, ux, none⟩) 5 cx [(pa0 : Int), (pa1 : Int), (pa2 : Int), (pa3 : Int), (pa4 : Int)]) (hF : Ii w (some ⟨tf, uf, none⟩) 2 cf [(fa0 : Int), (fa1 : Int)]) (hpa0 : pa0 < np) (epa0 : ps pa0 = PA0) (hpa1 : pa1 < np) (epa1 : ps pa1 = PA1) (hpa2 : pa2 < np) (epa2 : ps pa2 = PA2) (hpa3 : pa3 < np) (epa3 : ps pa3 = PA3) (hpa4 : pa4 < np) (epa4 : ps pa4 = PA4) (hfa0 : fa0 < nq) (efa0 : qs fa0 = FA0) (hfa1 : fa1 < nq) (efa1 : qs fa1 = FA1) (hk0 : PA0.kind = 1) (hk1 : PA1.kind = 2) (hk2 : PA2.kind = 1) (hk3 : PA3.kind = 2) (hk4 : PA4.kind = 1) (hwh : FA0.pitch * FA1.pitch = wh) (gwh : 0 ≤ wh ∧ wh ≤ 100000000) (gw1 : 0 ≤ FA0.pitch ∧ FA0.pitch ≤ 10000) (hqv0 : wh / FA0.pitch = qv0) (gqv0 : 0 ≤ qv0 ∧ qv0 ≤ 100000000) (gqd0 : 0 ≤ qv0 * FA0.draw ∧ qv0 * FA0.draw ≤ 200000000) (gpi0 : 1000 ≤ FA0.pitch ∧ FA0.pitch ≤ 10000) (hqv1 : wh / FA1.pitch = qv1) (gqv1 : 0 ≤ qv1 ∧ qv1 ≤ 100000000) (gqd1 : 0 ≤ qv1 * FA1.draw ∧ qv1 * FA1.draw ≤ 200000000) (gpi1 : 1000 ≤ FA1.pitch ∧ FA1.pitch ≤ 10000) (gwp : 1 ≤ wh) (hsa : sumS oa (fun i => [wh, qv0 * FA0.draw, wh, qv1 * FA1.draw, wh].getD i 0) 5 = sa) (gsa : 0 ≤ sa ∧ sa ≤ 10000000000000000) (hma : sa / (1000 * wh) = ma) (gma : 0 ≤ ma ∧ ma ≤ 10000000000000000) (hoa : ∀ i, i < 5 → 0 ≤ oa i ∧ oa i ≤ 1200000) (hka : (((PA0.t1 + PA2.t1) + PA4.t1) + FA0.h1) + FA1.h1 = ka) (hva0 : PA0.weight * (1000 + PA0.m1) = oa 0) (hva1 : PA1.weight * (1000 + PA1.m1) = oa 1) (hva2 : PA2.weight * (1000 + PA2.m1) = oa 2) (hva3 : PA3.weight * (1000 + PA3.m1) = oa 3) (hva4 : PA4.weight * (1000 + PA4.m1) = oa 4) (hsb : sumS ob (fun i => [wh, qv0 * FA0.draw, wh, qv1 * FA1.draw, wh].getD i 0) 5 = sb) (gsb : 0 ≤ sb ∧ sb ≤ 10000000000000000) (hmb : sb / (1000 * wh) = mb) (gmb : 0 ≤ mb ∧ mb ≤ 10000000000000000) (hob : ∀ i, i < 5 → 0 ≤ ob i ∧ ob i ≤ 1200000) (hkb : (((PA0.t2 + PA2.t2) + PA4.t2) + FA0.h2) + FA1.h2 = kb) (hvb0 : PA0.weight * (1000 + PA0.m2) = ob 0) (hvb1 : PA1.weight * (1000 + PA1.m2) = ob 1) (hvb2 : PA2.weight * (1000 + PA2.m2) = ob 2) (hvb3 : PA3.weight * (1000 + PA3.m2) = ob 3) (hvb4 : PA4.weight * (1000 + PA4.m2) = ob 4) :
  Calls Try.prog 14 #[.agg #[.slice (some ⟨bp, oP, none⟩) np cp, .slice (some ⟨bq, oq, none⟩) nq cq], .agg #[.slice (some ⟨tx, ux, none⟩) 5 cx, .slice (some ⟨tf, uf, none⟩) 2 cf]] w (fun e w' => e = .returned (.tuple #[.agg #[.int .i64 ma, .int .i64 mb], .agg #[.int .i64 ka, .int .i64 kb], .int .i64 0]) ∧ Below w.heap.size w w') := by
 refine calls_fr Try.func14 Try.ntmps14 rfl rfl fun g hg => ?_
 have k0 : g 0 = .agg #[.slice (some ⟨bp, oP, none⟩) np cp, .slice (some ⟨bq, oq, none⟩) nq cq] := hg 0
 have k1 : g 1 = .agg #[.slice (some ⟨tx, ux, none⟩) 5 cx, .slice (some ⟨tf, uf, none⟩) 2 cf] := hg 1
 clear hg
 have fB0 : Below w.heap.size w w := Below.refl _ _
 refine rw_ 5 [(2, 0), (3, 1), (4, 2), (5, 3), (6, 4)] [[], [], [], [], []] (rel [bx 0 #[.slice (some ⟨bp, oP, none⟩) np cp, .slice (some ⟨bq, oq, none⟩) nq cq] 68, bx 1 #[.slice (some ⟨tx, ux, none⟩) 5 cx, .slice (some ⟨tf, uf, none⟩) 2 cf] 71, bx 2 #[.int .i64 0, .int .i64 0] 62, bx 3 #[.int .i64 0, .int .i64 0] 62, iI 0])
  ⟨fun f s W c d h j k a => opb rfl rfl (by simp [go_sem, a.e 0 k0]),
  fun f s W c d h j k a => opb rfl rfl (by simp [go_sem, a.e 1 k1]),
  fun f s W c d h j k a => opb rfl rfl (by simp [go_sem]),
  fun f s W c d h j k a => opb rfl rfl (by simp [go_sem]),
  fun f s W c d h j k a => opz, trivial⟩ ?_
 intro f1 s1 W1 hB1 g1 hg1 z1
 have fB1 := hB1.f fB0
 obtain ⟨r1_0, br1_0⟩ := hB1.is 0
 have lr1_0 := hB1.lr 0 br1_0
 obtain ⟨r1_1, br1_1⟩ := hB1.is 1
 have lr1_1 := hB1.lr 1 br1_1
 obtain ⟨r1_2, br1_2⟩ := hB1.is 2
 have lr1_2 := hB1.lr 2 br1_2
 obtain ⟨r1_3, br1_3⟩ := hB1.is 3
 have lr1_3 := hB1.lr 3 br1_3
 have ne1_0_1 := hB1.nb 0 1
 have ne1_0_2 := hB1.nb 0 2
 have ne1_1_2 := hB1.nb 1 2
 have ne1_0_3 := hB1.nb 0 3
 have ne1_1_3 := hB1.nb 1 3
 have ne1_2_3 := hB1.nb 2 3
 have k1_2 := kt hg1 2 r1_0
 have k1_3 := kt hg1 3 r1_1
 refine wp_seq_k fun K2 hK2 => ?_
 refine ry 7 [(9, 0), (10, 1), (11, 2), (8, 3), (12, 4), (13, 5), (7, 6), (6, 8)] [[], [], [0, 1], [2], [3], [3], [], [0, 1, 2, 3, 4, 6], [0, 1, 2, 3, 4, 5, 6, 7]] (rel [is (.agg #[.slice (some ⟨bp, oP, none⟩) np cp, .slice (some ⟨bq, oq, none⟩) nq cq]), is (.agg #[.slice (some ⟨tx, ux, none⟩) 5 cx, .slice (some ⟨tf, uf, none⟩) 2 cf]), is (.tuple #[.agg #[.slice (some ⟨tx, ux, none⟩) 5 cx, .slice (some ⟨tf, uf, none⟩) 2 cf, .slice (some ⟨bp, oP, none⟩) np cp, .slice (some ⟨bq, oq, none⟩) nq cq, .int .i64 wh], .int .i64 0]), is (.tuple #[.agg #[.slice (some ⟨tx, ux, none⟩) 5 cx, .slice (some ⟨tf, uf, none⟩) 2 cf, .slice (some ⟨bp, oP, none⟩) np cp, .slice (some ⟨bq, oq, none⟩) nq cq, .int .i64 wh], .int .i64 0]), is (.agg #[.slice (some ⟨tx, ux, none⟩) 5 cx, .slice (some ⟨tf, uf, none⟩) 2 cf, .slice (some ⟨bp, oP, none⟩) np cp, .slice (some ⟨bq, oq, none⟩) nq cq, .int .i64 wh]), iI 0, bx 6 #[.slice none 0 0, .slice none 0 0, .slice none 0 0, .slice none 0 0, .int .i64 0] 95])
  ⟨fun f s W c d h j k a => opv rfl rfl (by simp [go_sem, a.e 2 k1_2, cb br1_0 c 0, cb br1_0 c 1]) rfl,
  fun f s W c d h j k a => opv rfl rfl (by simp [go_sem, a.e 3 k1_3, cb br1_1 c 0, cb br1_1 c 1]) rfl,
  fun f s W c d h j k a => by have l := bwt fB1 c; exact opc rfl rfl (by simp [go_sem, a.e 9 (d 0 rfl), a.e 10 (d 1 rfl)]) (newSheet_2 ps qs bp oP np cp bq oq nq cq tx ux cx tf uf cf pa0 pa1 pa2 pa3 pa4 fa0 fa1 PA0 PA1 PA2 PA3 PA4 FA0 FA1 wh W (hP.below l) (hQ.below l) hpi hqi np1 np8 nq1 nq4 (hX.below l (Nat.le_refl _)) (hF.below l (Nat.le_refl _)) hpa0 epa0 hpa1 epa1 hpa2 epa2 hpa3 epa3 hpa4 epa4 hfa0 efa0 hfa1 efa1 hk0 hk1 hk2 hk3 hk4 hwh gwh gw1),
  fun f s W c d h j k a => opm (a.v 11 (d 2 rfl)),
  fun f s W c d h j k a => opv rfl rfl (by simp [go_sem, a.e 8 (d 3 rfl)]) rfl,
  fun f s W c d h j k a => opv rfl rfl (by simp [go_sem, a.e 8 (d 3 rfl)]) rfl,
  fun f s W c d h j k a => opb rfl rfl (by simp [go_sem]), trivial⟩ ?_
 intro f2 s2 W2 hB2 g2 hg2 z2
 have fB2 := hB2.f fB1
 have b2_2 := hB2.b br1_2
 have b2_3 := hB2.b br1_3
 obtain ⟨r2_6, br2_6⟩ := hB2.is 6
 have lr2_6 := hB2.lr 6 br2_6
 have k2_12 := kt hg2 12 (hB2.is 4)
 have k2_13 := kt hg2 13 (hB2.is 5)
 have k2_7 := kt hg2 7 r2_6
 obtain ⟨W3, hW3⟩ : ∃ W', W' = W2.setRow (s2 6) #[.slice (some ⟨tx, ux, none⟩) 5 cx, .slice (some ⟨tf, uf, none⟩) 2 cf, .slice (some ⟨bp, oP, none⟩) np cp, .slice (some ⟨bq, oq, none⟩) nq cq, .int .i64 wh] := ⟨_, rfl⟩
 refine tsk (o := _) rfl ⟨rfl, rfl⟩ (run_seg hW3 (fr_ev k2_7) (fr_ev k2_12) br2_6 rfl rfl rfl rfl) ?_
 obtain ⟨fB3, nb3, ot3, z3⟩ := sgf hW3 fB2 br2_6 (by omega)
 clear hW3
 have b3_2 := ot3 _ _ (by omega) b2_2
 have b3_3 := ot3 _ _ (by omega) b2_3
 refine tail_value (o := _) rfl rfl rfl (v := .int .i64 0) (by simp [go_sem, frv 26 k2_13]) ?_
 generalize hg4 : upd g2 6 (.int .i64 0) = g4
 have k4_6 := kt hg4 6 (upd_same _ _ _)
 refine wpe ?_
 refine hK2 _ _ ?_
 refine wp_seq_k fun K3 hK3 => ?_
 refine rw_ 2 [(14, 0), (15, 1)] [[], [0]] (rel [iI 0, iB false])
  ⟨fun f s W c d h j k a => opm (a.v 6 k4_6),
  fun f s W c d h j k a => opv rfl rfl (by simp [go_sem, a.e 14 (d 0 rfl)]) rfl, trivial⟩ ?_
 intro f5 s5 W5 hB5 g5 hg5 z5
 have fB5 := hB5.f fB3
 have b5_4 := hB5.b nb3
 have k5_7 := kt hg5 7 (ku hg4 7 k2_7)
 have k5_15 := kt hg5 15 (hB5.is 1)
 refine wp_cond_false ((fr_eval rfl).trans k5_15) ?_
 refine wp_skip ?_
 refine hK3 _ _ ?_
 refine wp_seq_k fun K6 hK6 => ?_
 refine ry 5 [(20, 0), (21, 1), (19, 2), (22, 3), (23, 4)] [[], [0], [1], [2], [2], [0, 1, 2, 3], [0, 1, 2, 3, 4, 5]] (rel [is (.agg #[.slice (some ⟨tx, ux, none⟩) 5 cx, .slice (some ⟨tf, uf, none⟩) 2 cf, .slice (some ⟨bp, oP, none⟩) np cp, .slice (some ⟨bq, oq, none⟩) nq cq, .int .i64 wh]), is (.tuple #[.agg #[.int .i64 ma, .int .i64 mb], .agg #[.int .i64 ka, .int .i64 kb]]), is (.tuple #[.agg #[.int .i64 ma, .int .i64 mb], .agg #[.int .i64 ka, .int .i64 kb]]), is (.agg #[.int .i64 ma, .int .i64 mb]), is (.agg #[.int .i64 ka, .int .i64 kb])])
  ⟨fun f s W c d h j k a => opl rfl rfl rfl (a.v 7 k5_7) (bwb b5_4 c) Try.underlying95 rfl (by kernel_rfl) rfl,
  fun f s W c d h j k a => by have l := bwt fB5 c; exact opc rfl rfl (by simp [go_sem, a.e 20 (d 0 rfl)]) (measure_2 ps qs bp oP np cp bq oq nq cq tx ux cx tf uf cf pa0 pa1 pa2 pa3 pa4 fa0 fa1 PA0 PA1 PA2 PA3 PA4 FA0 FA1 wh qv0 qv1 sa sb ma mb ka kb oa ob W (hP.below l) (hQ.below l) hpi hqi np1 np8 nq1 nq4 (hX.below l (Nat.le_refl _)) (hF.below l (Nat.le_refl _)) hpa0 epa0 hpa1 epa1 hpa2 epa2 hpa3 epa3 hpa4 epa4 hfa0 efa0 hfa1 efa1 hk0 hk1 hk2 hk3 hk4 hwh gwh gw1 hqv0 gqv0 gqd0 gpi0 hqv1 gqv1 gqd1 gpi1 gwp hsa gsa hma gma hoa hka hva0 hva1 hva2 hva3 hva4 hsb gsb hmb gmb hob hkb hvb0 hvb1 hvb2 hvb3 hvb4),
  fun f s W c d h j k a => opm (a.v 21 (d 1 rfl)),
  fun f s W c d h j k a => opv rfl rfl (by simp [go_sem, a.e 19 (d 2 rfl)]) rfl,
  fun f s W c d h j k a => opv rfl rfl (by simp [go_sem, a.e 19 (d 2 rfl)]) rfl, trivial⟩ ?_
 intro f6 s6 W6 hB6 g6 hg6 z6
 have fB6 := hB6.f fB5
 have b6_2 := hB6.b (hB5.b b3_2)
 have b6_3 := hB6.b (hB5.b b3_3)
 have k6_4 := kt hg6 4 (kt hg5 4 (ku hg4 4 (kt hg2 4 (kt hg1 4 r1_2))))
 have k6_5 := kt hg6 5 (kt hg5 5 (ku hg4 5 (kt hg2 5 (kt hg1 5 r1_3))))
 have k6_22 := kt hg6 22 (hB6.is 3)
 have k6_23 := kt hg6 23 (hB6.is 4)
 obtain ⟨W7, hW7⟩ : ∃ W', W' = W6.setRow (s1 2) #[.int .i64 ma, .int .i64 mb] := ⟨_, rfl⟩
 refine tsk (o := _) rfl ⟨rfl, rfl⟩ (run_seg hW7 (fr_ev k6_4) (fr_ev k6_22) b6_2 rfl rfl rfl rfl) ?_
 obtain ⟨fB7, nb7, ot7, z7⟩ := sgf hW7 fB6 b6_2 (by omega)
 clear hW7
 have b7_3 := ot7 _ _ (by omega) b6_3
 obtain ⟨W8, hW8⟩ : ∃ W', W' = W7.setRow (s1 3) #[.int .i64 ka, .int .i64 kb] := ⟨_, rfl⟩
 refine tsk (o := _) rfl ⟨rfl, rfl⟩ (run_seg hW8 (fr_ev k6_5) (fr_ev k6_23) b7_3 rfl rfl rfl rfl) ?_
 obtain ⟨fB8, nb8, ot8, z8⟩ := sgf hW8 fB7 b7_3 (by omega)
 clear hW8
 have b8_2 := ot8 _ _ (by omega) nb7
 refine wpe ?_
 refine hK6 _ _ ?_
 refine rw_ 5 [(24, 0), (25, 1), (6, 4)] [[], [], [0], [1], []] (rel [is (.agg #[.int .i64 ma, .int .i64 mb]), is (.agg #[.int .i64 ka, .int .i64 kb]), is (undef), is (undef), iI 0])
  ⟨fun f s W c d h j k a => opv rfl rfl (by simp [go_sem, a.e 4 k6_4, cb b8_2 c 0, cb b8_2 c 1]) rfl,
  fun f s W c d h j k a => opv rfl rfl (by simp [go_sem, a.e 5 k6_5, cb nb8 c 0, cb nb8 c 1]) rfl,
  fun f s W c d h j k a => ops_same rfl ⟨rfl, rfl⟩ (run_seg (setRow_self W _ _ _ _ (bwb b8_2 c)).symm (a.v 4 k6_4) (a.v 24 (d 0 rfl)) (bwb b8_2 c) rfl rfl rfl rfl),
  fun f s W c d h j k a => ops_same rfl ⟨rfl, rfl⟩ (run_seg (setRow_self W _ _ _ _ (bwb nb8 c)).symm (a.v 5 k6_5) (a.v 25 (d 1 rfl)) (bwb nb8 c) rfl rfl rfl rfl),
  fun f s W c d h j k a => opz, trivial⟩ ?_
 intro f9 s9 W9 hB9 g9 hg9 z9
 have fB9 := hB9.f fB8
 have b9_2 := hB9.b b8_2
 have b9_3 := hB9.b nb8
 have k9_4 := kt hg9 4 k6_4
 have k9_5 := kt hg9 5 k6_5
 have k9_6 := kt hg9 6 (hB9.is 4)
 refine wp_ret ?_
 refine leave_gen (v := .tuple #[.agg #[.int .i64 ma, .int .i64 mb], .agg #[.int .i64 ka, .int .i64 kb], .int .i64 0]) (.inr rfl) (by simp [results, Try.results14, go_sem, frv 26 k9_4, cl b9_2 0, cl b9_2 1, frv 26 k9_5, cl b9_3 0, cl b9_3 1, frv 26 k9_6]) ?_
 exact ⟨rfl, fB9⟩
end Go.Proofs.Ytolnpbpeifpbjaa
