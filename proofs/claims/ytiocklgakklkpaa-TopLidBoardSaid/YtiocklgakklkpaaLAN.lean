/- Part of the proof: what the claim leans on. -/
import Derived.Test.YtiocklgakklkpaaLAL
import Derived.Test.YtiocklgakklkpaaLAM
set_option linter.unusedSimpArgs false
set_option linter.unusedVariables false
namespace Go.Proofs.Ytiocklgakklkpaa
open Go.RowKit
set_option maxRecDepth 100000 in
set_option maxHeartbeats 8000000 in
theorem moist_1_1 (ps : Nat → Pa) (qs : Nat → Fu) (bp oP np cp bq oq nq cq : Nat) (tx ux cx tf uf cf pa0 pa1 pa2 fa0 : Nat) (PA0 PA1 PA2 : Pa) (FA0 : Fu) (wh : Int) (qv0 : Int) (sm mo : Int) (oo : Nat → Int) (w : World) (hP : PaR w bp oP np ps) (hQ : FuR w bq oq nq qs) (hpi : ∀ i, i < np → PaIn (ps i)) (hqi : ∀ i, i < nq → FuIn (qs i)) (np1 : 1 ≤ np) (np8 : np ≤ 8) (nq1 : 1 ≤ nq) (nq4 : nq ≤ 4) (hX : Ii w (some ⟨tx, ux, none⟩) 3 cx [(pa0 : Int), (pa1 : Int), (pa2 : Int)]) (hF : Ii w (some ⟨tf, uf, none⟩) 1 cf [(fa0 : Int)]) (hpa0 : pa0 < np) (epa0 : ps pa0 = PA0) (hpa1 : pa1 < np) (epa1 : ps pa1 = PA1) (hpa2 : pa2 < np) (epa2 : ps pa2 = PA2) (hfa0 : fa0 < nq) (efa0 : qs fa0 = FA0) (hk0 : PA0.kind = 1) (hk1 : PA1.kind = 2) (hk2 : PA2.kind = 1) (hwh : FA0.pitch = wh) (gwh : 0 ≤ wh ∧ wh ≤ 100000000) (gw1 : 0 ≤ FA0.pitch ∧ FA0.pitch ≤ 10000) (hqv0 : wh / FA0.pitch = qv0) (gqv0 : 0 ≤ qv0 ∧ qv0 ≤ 100000000) (gqd0 : 0 ≤ qv0 * FA0.draw ∧ qv0 * FA0.draw ≤ 200000000) (gpi0 : 1000 ≤ FA0.pitch ∧ FA0.pitch ≤ 10000) (gwp : 1 ≤ wh) (hsm : sumS oo (fun i => [wh, qv0 * FA0.draw, wh].getD i 0) 3 = sm) (gsm : 0 ≤ sm ∧ sm ≤ 10000000000000000) (hmo : sm / (1000 * wh) = mo) (gmo : 0 ≤ mo ∧ mo ≤ 10000000000000000) (hoo : ∀ i, i < 3 → 0 ≤ oo i ∧ oo i ≤ 1200000) (hov0 : PA0.weight * (1000 + PA0.m1) = oo 0) (hov1 : PA1.weight * (1000 + PA1.m1) = oo 1) (hov2 : PA2.weight * (1000 + PA2.m1) = oo 2) :
  Calls Try.prog 40 #[.agg #[.slice (some ⟨tx, ux, none⟩) (3) (cx), .slice (some ⟨tf, uf, none⟩) (1) (cf), .slice (some ⟨bp, oP, none⟩) (np) (cp), .slice (some ⟨bq, oq, none⟩) (nq) (cq), .int .i64 wh], .func (.func 38) #[] #[]] w (fun e w' => e = .returned (.int .i64 mo) ∧ Below w.heap.size w w') := by
 refine calls_fr Try.func40 Try.ntmps40 rfl rfl fun g hg => ?_
 have k0 : g 0 = .agg #[.slice (some ⟨tx, ux, none⟩) (3) (cx), .slice (some ⟨tf, uf, none⟩) (1) (cf), .slice (some ⟨bp, oP, none⟩) (np) (cp), .slice (some ⟨bq, oq, none⟩) (nq) (cq), .int .i64 wh] := hg 0
 have k1 : g 1 = .func (.func 38) #[] #[] := hg 1
 clear hg
 have fB0 : Below w.heap.size w w := Below.refl _ _
 refine wp_seq_k fun K1 hK1 => ?_
 refine region_dk 3 [(2, 0), (3, 1), (4, 2)] [[], [], []] (rel [bx 0 #[.slice (some ⟨tx, ux, none⟩) (3) (cx), .slice (some ⟨tf, uf, none⟩) (1) (cf), .slice (some ⟨bp, oP, none⟩) (np) (cp), .slice (some ⟨bq, oq, none⟩) (nq) (cq), .int .i64 wh] 72,
   bx 1 #[.func (.func 38) #[] #[]] 100,
   is (.int .i64 0)])
  ⟨bx_k, bx_k, is_k, trivial⟩
  ⟨fun f s W c d j k l a => opb rfl rfl (by simp [go_sem, a.e 0 k0]),
  fun f s W c d j k l a => opb rfl rfl (by simp [go_sem, a.e 1 k1]),
  fun f s W c d j k l a => opv rfl rfl (by simp [go_sem]) rfl, trivial⟩ ?_
 intro f1 s1 W1 hB1 g1 hg1
 have fB1 := hB1.f fB0
 have z1 := hB1.below.size
 obtain ⟨r1_0, br1_0⟩ := hB1.is 0
 have lr1_0 := hB1.lr 0 br1_0
 obtain ⟨r1_1, br1_1⟩ := hB1.is 1
 have lr1_1 := hB1.lr 1 br1_1
 have ne1_0_1 := hB1.nb 0 1
 refine hK1 _ _ ?_
 have k1_2 := kt hg1 2 r1_0
 have k1_3 := kt hg1 3 r1_1
 have k1_4 := kt hg1 4 (hB1.is 2)
 refine wp_seq_k fun K2 hK2 => ?_
 refine region_dk 8 [(5, 0), (6, 1), (7, 2), (8, 3), (9, 4), (10, 5), (11, 6), (4, 7)] [[], [], [0, 1], [], [3], [3, 4], [0, 1, 2, 3, 4, 5], [0, 1, 2, 3, 4, 5, 6]] (rel [is (.agg #[.slice (some ⟨tx, ux, none⟩) (3) (cx), .slice (some ⟨tf, uf, none⟩) (1) (cf), .slice (some ⟨bp, oP, none⟩) (np) (cp), .slice (some ⟨bq, oq, none⟩) (nq) (cq), .int .i64 wh]),
   is (.func (.func 63) #[] #[.pointer (some ⟨(s1 1), 0, none⟩)]),
   is (.int .i64 sm),
   is (.pointer (some ⟨(s1 0), 4, none⟩)),
   is (.int .i64 wh),
   is (.int .i64 (1000 * wh)),
   is (.int .i64 mo),
   is (.int .i64 mo)])
  ⟨is_k, is_k, is_k, is_k, is_k, is_k, is_k, is_k, trivial⟩
  ⟨fun f s W c d j k l a => opv rfl rfl (by simp [go_sem, a.e 2 k1_2, cb br1_0 c 0, cb br1_0 c 1, cb br1_0 c 2, cb br1_0 c 3, cb br1_0 c 4]) rfl,
  fun f s W c d j k l a => opv rfl rfl (by simp [go_sem, a.e 3 k1_3]) rfl,
  fun f s W c d j k l a => by have m := below_trans fB1 c; exact opDo_call rfl rfl (by simp [go_sem, a.e 5 (d 0 rfl), a.e 6 (d 1 rfl)]) (sumL_1 ps qs bp oP np cp bq oq nq cq tx ux cx tf uf cf pa0 pa1 pa2 fa0 PA0 PA1 PA2 FA0 wh qv0 W (hP.below m) (hQ.below m) hpi hqi np1 np8 nq1 nq4 (hX.below m (Nat.le_refl _)) (hF.below m (Nat.le_refl _)) hpa0 epa0 hpa1 epa1 hpa2 epa2 hfa0 efa0 hk0 hk1 hk2 hwh gwh gw1 hqv0 gqv0 gqd0 gpi0 63 #[.pointer (some ⟨(s1 1), 0, none⟩)] (fun xs w => by simp [go_sem]) oo hoo (fun W' hb' => by rw [show (#[.agg #[.int .i64 PA0.kind, .int .i64 PA0.weight, .int .i64 PA0.t1, .int .i64 PA0.t2, .int .i64 PA0.m1, .int .i64 PA0.m2, .int .i64 PA0.price, .int .i64 PA0.strong]] ++ #[.pointer (some ⟨(s1 1), 0, none⟩)] : Array Value) = #[.agg #[.int .i64 PA0.kind, .int .i64 PA0.weight, .int .i64 PA0.t1, .int .i64 PA0.t2, .int .i64 PA0.m1, .int .i64 PA0.m2, .int .i64 PA0.price, .int .i64 PA0.strong], .pointer (some ⟨(s1 1), 0, none⟩)] from by simp, ← hov0]; exact moistP_1 PA0 (epa0 ▸ hpi pa0 hpa0) (s1 1) W' (blk_below (blk_below br1_1 c) hb') (by rw [hov0]; exact hoo 0 (by decide))) (fun W' hb' => by rw [show (#[.agg #[.int .i64 PA1.kind, .int .i64 PA1.weight, .int .i64 PA1.t1, .int .i64 PA1.t2, .int .i64 PA1.m1, .int .i64 PA1.m2, .int .i64 PA1.price, .int .i64 PA1.strong]] ++ #[.pointer (some ⟨(s1 1), 0, none⟩)] : Array Value) = #[.agg #[.int .i64 PA1.kind, .int .i64 PA1.weight, .int .i64 PA1.t1, .int .i64 PA1.t2, .int .i64 PA1.m1, .int .i64 PA1.m2, .int .i64 PA1.price, .int .i64 PA1.strong], .pointer (some ⟨(s1 1), 0, none⟩)] from by simp, ← hov1]; exact moistP_1 PA1 (epa1 ▸ hpi pa1 hpa1) (s1 1) W' (blk_below (blk_below br1_1 c) hb') (by rw [hov1]; exact hoo 1 (by decide))) (fun W' hb' => by rw [show (#[.agg #[.int .i64 PA2.kind, .int .i64 PA2.weight, .int .i64 PA2.t1, .int .i64 PA2.t2, .int .i64 PA2.m1, .int .i64 PA2.m2, .int .i64 PA2.price, .int .i64 PA2.strong]] ++ #[.pointer (some ⟨(s1 1), 0, none⟩)] : Array Value) = #[.agg #[.int .i64 PA2.kind, .int .i64 PA2.weight, .int .i64 PA2.t1, .int .i64 PA2.t2, .int .i64 PA2.m1, .int .i64 PA2.m2, .int .i64 PA2.price, .int .i64 PA2.strong], .pointer (some ⟨(s1 1), 0, none⟩)] from by simp, ← hov2]; exact moistP_1 PA2 (epa2 ▸ hpi pa2 hpa2) (s1 1) W' (blk_below (blk_below br1_1 c) hb') (by rw [hov2]; exact hoo 2 (by decide)))) ((fun e W' h => by have h1 := h.1; rw [hsm] at h1; exact ⟨_, h1, h.2, rfl⟩)),
  fun f s W c d j k l a => opv rfl rfl (by simp [go_sem, a.e 2 k1_2]) rfl,
  fun f s W c d j k l a => opv rfl rfl (by simp [go_sem, a.e 8 (d 3 rfl), cb br1_0 c 4]) rfl,
  fun f s W c d j k l a => opv rfl rfl (by simp [go_sem, a.e 9 (d 4 rfl), IntWalk.i64_in (1000 * wh) (by omega)]) rfl,
  fun f s W c d j k l a => by have qu_ : (sm).tdiv (1000 * wh) = mo := (Int.tdiv_eq_ediv_of_nonneg (by omega)).trans hmo; have qw_ := IntWalk.i64_in (mo) (by omega); have qz_ : ¬ (1000 * wh) = 0 := (by omega); exact opv rfl rfl (by simp [go_sem, a.e 7 (d 2 rfl), a.e 10 (d 5 rfl), qu_, qw_, qz_]) rfl,
  fun f s W c d j k l a => opv rfl rfl (by simp [go_sem, a.e 11 (d 6 rfl)]) rfl, trivial⟩ ?_
 intro f2 s2 W2 hB2 g2 hg2
 have fB2 := hB2.f fB1
 have z2 := hB2.below.size
 have b2_0 := hB2.b br1_0
 have b2_1 := hB2.b br1_1
 refine hK2 _ _ ?_
 have k2_4 := kt hg2 4 (hB2.is 7)
 refine wp_ret ?_
 refine leave_one (N := 12) (v := .int .i64 mo) (.inr rfl) Try.results40 rfl k2_4 ?_
 exact ⟨rfl, fB2⟩
set_option maxRecDepth 100000 in
set_option maxHeartbeats 8000000 in
theorem moist_1_2 (ps : Nat → Pa) (qs : Nat → Fu) (bp oP np cp bq oq nq cq : Nat) (tx ux cx tf uf cf pa0 pa1 pa2 fa0 : Nat) (PA0 PA1 PA2 : Pa) (FA0 : Fu) (wh : Int) (qv0 : Int) (sm mo : Int) (oo : Nat → Int) (w : World) (hP : PaR w bp oP np ps) (hQ : FuR w bq oq nq qs) (hpi : ∀ i, i < np → PaIn (ps i)) (hqi : ∀ i, i < nq → FuIn (qs i)) (np1 : 1 ≤ np) (np8 : np ≤ 8) (nq1 : 1 ≤ nq) (nq4 : nq ≤ 4) (hX : Ii w (some ⟨tx, ux, none⟩) 3 cx [(pa0 : Int), (pa1 : Int), (pa2 : Int)]) (hF : Ii w (some ⟨tf, uf, none⟩) 1 cf [(fa0 : Int)]) (hpa0 : pa0 < np) (epa0 : ps pa0 = PA0) (hpa1 : pa1 < np) (epa1 : ps pa1 = PA1) (hpa2 : pa2 < np) (epa2 : ps pa2 = PA2) (hfa0 : fa0 < nq) (efa0 : qs fa0 = FA0) (hk0 : PA0.kind = 1) (hk1 : PA1.kind = 2) (hk2 : PA2.kind = 1) (hwh : FA0.pitch = wh) (gwh : 0 ≤ wh ∧ wh ≤ 100000000) (gw1 : 0 ≤ FA0.pitch ∧ FA0.pitch ≤ 10000) (hqv0 : wh / FA0.pitch = qv0) (gqv0 : 0 ≤ qv0 ∧ qv0 ≤ 100000000) (gqd0 : 0 ≤ qv0 * FA0.draw ∧ qv0 * FA0.draw ≤ 200000000) (gpi0 : 1000 ≤ FA0.pitch ∧ FA0.pitch ≤ 10000) (gwp : 1 ≤ wh) (hsm : sumS oo (fun i => [wh, qv0 * FA0.draw, wh].getD i 0) 3 = sm) (gsm : 0 ≤ sm ∧ sm ≤ 10000000000000000) (hmo : sm / (1000 * wh) = mo) (gmo : 0 ≤ mo ∧ mo ≤ 10000000000000000) (hoo : ∀ i, i < 3 → 0 ≤ oo i ∧ oo i ≤ 1200000) (hov0 : PA0.weight * (1000 + PA0.m2) = oo 0) (hov1 : PA1.weight * (1000 + PA1.m2) = oo 1) (hov2 : PA2.weight * (1000 + PA2.m2) = oo 2) :
  Calls Try.prog 40 #[.agg #[.slice (some ⟨tx, ux, none⟩) (3) (cx), .slice (some ⟨tf, uf, none⟩) (1) (cf), .slice (some ⟨bp, oP, none⟩) (np) (cp), .slice (some ⟨bq, oq, none⟩) (nq) (cq), .int .i64 wh], .func (.func 39) #[] #[]] w (fun e w' => e = .returned (.int .i64 mo) ∧ Below w.heap.size w w') := by
 refine calls_fr Try.func40 Try.ntmps40 rfl rfl fun g hg => ?_
 have k0 : g 0 = .agg #[.slice (some ⟨tx, ux, none⟩) (3) (cx), .slice (some ⟨tf, uf, none⟩) (1) (cf), .slice (some ⟨bp, oP, none⟩) (np) (cp), .slice (some ⟨bq, oq, none⟩) (nq) (cq), .int .i64 wh] := hg 0
 have k1 : g 1 = .func (.func 39) #[] #[] := hg 1
 clear hg
 have fB0 : Below w.heap.size w w := Below.refl _ _
 refine wp_seq_k fun K1 hK1 => ?_
 refine region_dk 3 [(2, 0), (3, 1), (4, 2)] [[], [], []] (rel [bx 0 #[.slice (some ⟨tx, ux, none⟩) (3) (cx), .slice (some ⟨tf, uf, none⟩) (1) (cf), .slice (some ⟨bp, oP, none⟩) (np) (cp), .slice (some ⟨bq, oq, none⟩) (nq) (cq), .int .i64 wh] 72,
   bx 1 #[.func (.func 39) #[] #[]] 100,
   is (.int .i64 0)])
  ⟨bx_k, bx_k, is_k, trivial⟩
  ⟨fun f s W c d j k l a => opb rfl rfl (by simp [go_sem, a.e 0 k0]),
  fun f s W c d j k l a => opb rfl rfl (by simp [go_sem, a.e 1 k1]),
  fun f s W c d j k l a => opv rfl rfl (by simp [go_sem]) rfl, trivial⟩ ?_
 intro f1 s1 W1 hB1 g1 hg1
 have fB1 := hB1.f fB0
 have z1 := hB1.below.size
 obtain ⟨r1_0, br1_0⟩ := hB1.is 0
 have lr1_0 := hB1.lr 0 br1_0
 obtain ⟨r1_1, br1_1⟩ := hB1.is 1
 have lr1_1 := hB1.lr 1 br1_1
 have ne1_0_1 := hB1.nb 0 1
 refine hK1 _ _ ?_
 have k1_2 := kt hg1 2 r1_0
 have k1_3 := kt hg1 3 r1_1
 have k1_4 := kt hg1 4 (hB1.is 2)
 refine wp_seq_k fun K2 hK2 => ?_
 refine region_dk 8 [(5, 0), (6, 1), (7, 2), (8, 3), (9, 4), (10, 5), (11, 6), (4, 7)] [[], [], [0, 1], [], [3], [3, 4], [0, 1, 2, 3, 4, 5], [0, 1, 2, 3, 4, 5, 6]] (rel [is (.agg #[.slice (some ⟨tx, ux, none⟩) (3) (cx), .slice (some ⟨tf, uf, none⟩) (1) (cf), .slice (some ⟨bp, oP, none⟩) (np) (cp), .slice (some ⟨bq, oq, none⟩) (nq) (cq), .int .i64 wh]),
   is (.func (.func 63) #[] #[.pointer (some ⟨(s1 1), 0, none⟩)]),
   is (.int .i64 sm),
   is (.pointer (some ⟨(s1 0), 4, none⟩)),
   is (.int .i64 wh),
   is (.int .i64 (1000 * wh)),
   is (.int .i64 mo),
   is (.int .i64 mo)])
  ⟨is_k, is_k, is_k, is_k, is_k, is_k, is_k, is_k, trivial⟩
  ⟨fun f s W c d j k l a => opv rfl rfl (by simp [go_sem, a.e 2 k1_2, cb br1_0 c 0, cb br1_0 c 1, cb br1_0 c 2, cb br1_0 c 3, cb br1_0 c 4]) rfl,
  fun f s W c d j k l a => opv rfl rfl (by simp [go_sem, a.e 3 k1_3]) rfl,
  fun f s W c d j k l a => by have m := below_trans fB1 c; exact opDo_call rfl rfl (by simp [go_sem, a.e 5 (d 0 rfl), a.e 6 (d 1 rfl)]) (sumL_1 ps qs bp oP np cp bq oq nq cq tx ux cx tf uf cf pa0 pa1 pa2 fa0 PA0 PA1 PA2 FA0 wh qv0 W (hP.below m) (hQ.below m) hpi hqi np1 np8 nq1 nq4 (hX.below m (Nat.le_refl _)) (hF.below m (Nat.le_refl _)) hpa0 epa0 hpa1 epa1 hpa2 epa2 hfa0 efa0 hk0 hk1 hk2 hwh gwh gw1 hqv0 gqv0 gqd0 gpi0 63 #[.pointer (some ⟨(s1 1), 0, none⟩)] (fun xs w => by simp [go_sem]) oo hoo (fun W' hb' => by rw [show (#[.agg #[.int .i64 PA0.kind, .int .i64 PA0.weight, .int .i64 PA0.t1, .int .i64 PA0.t2, .int .i64 PA0.m1, .int .i64 PA0.m2, .int .i64 PA0.price, .int .i64 PA0.strong]] ++ #[.pointer (some ⟨(s1 1), 0, none⟩)] : Array Value) = #[.agg #[.int .i64 PA0.kind, .int .i64 PA0.weight, .int .i64 PA0.t1, .int .i64 PA0.t2, .int .i64 PA0.m1, .int .i64 PA0.m2, .int .i64 PA0.price, .int .i64 PA0.strong], .pointer (some ⟨(s1 1), 0, none⟩)] from by simp, ← hov0]; exact moistP_2 PA0 (epa0 ▸ hpi pa0 hpa0) (s1 1) W' (blk_below (blk_below br1_1 c) hb') (by rw [hov0]; exact hoo 0 (by decide))) (fun W' hb' => by rw [show (#[.agg #[.int .i64 PA1.kind, .int .i64 PA1.weight, .int .i64 PA1.t1, .int .i64 PA1.t2, .int .i64 PA1.m1, .int .i64 PA1.m2, .int .i64 PA1.price, .int .i64 PA1.strong]] ++ #[.pointer (some ⟨(s1 1), 0, none⟩)] : Array Value) = #[.agg #[.int .i64 PA1.kind, .int .i64 PA1.weight, .int .i64 PA1.t1, .int .i64 PA1.t2, .int .i64 PA1.m1, .int .i64 PA1.m2, .int .i64 PA1.price, .int .i64 PA1.strong], .pointer (some ⟨(s1 1), 0, none⟩)] from by simp, ← hov1]; exact moistP_2 PA1 (epa1 ▸ hpi pa1 hpa1) (s1 1) W' (blk_below (blk_below br1_1 c) hb') (by rw [hov1]; exact hoo 1 (by decide))) (fun W' hb' => by rw [show (#[.agg #[.int .i64 PA2.kind, .int .i64 PA2.weight, .int .i64 PA2.t1, .int .i64 PA2.t2, .int .i64 PA2.m1, .int .i64 PA2.m2, .int .i64 PA2.price, .int .i64 PA2.strong]] ++ #[.pointer (some ⟨(s1 1), 0, none⟩)] : Array Value) = #[.agg #[.int .i64 PA2.kind, .int .i64 PA2.weight, .int .i64 PA2.t1, .int .i64 PA2.t2, .int .i64 PA2.m1, .int .i64 PA2.m2, .int .i64 PA2.price, .int .i64 PA2.strong], .pointer (some ⟨(s1 1), 0, none⟩)] from by simp, ← hov2]; exact moistP_2 PA2 (epa2 ▸ hpi pa2 hpa2) (s1 1) W' (blk_below (blk_below br1_1 c) hb') (by rw [hov2]; exact hoo 2 (by decide)))) ((fun e W' h => by have h1 := h.1; rw [hsm] at h1; exact ⟨_, h1, h.2, rfl⟩)),
  fun f s W c d j k l a => opv rfl rfl (by simp [go_sem, a.e 2 k1_2]) rfl,
  fun f s W c d j k l a => opv rfl rfl (by simp [go_sem, a.e 8 (d 3 rfl), cb br1_0 c 4]) rfl,
  fun f s W c d j k l a => opv rfl rfl (by simp [go_sem, a.e 9 (d 4 rfl), IntWalk.i64_in (1000 * wh) (by omega)]) rfl,
  fun f s W c d j k l a => by have qu_ : (sm).tdiv (1000 * wh) = mo := (Int.tdiv_eq_ediv_of_nonneg (by omega)).trans hmo; have qw_ := IntWalk.i64_in (mo) (by omega); have qz_ : ¬ (1000 * wh) = 0 := (by omega); exact opv rfl rfl (by simp [go_sem, a.e 7 (d 2 rfl), a.e 10 (d 5 rfl), qu_, qw_, qz_]) rfl,
  fun f s W c d j k l a => opv rfl rfl (by simp [go_sem, a.e 11 (d 6 rfl)]) rfl, trivial⟩ ?_
 intro f2 s2 W2 hB2 g2 hg2
 have fB2 := hB2.f fB1
 have z2 := hB2.below.size
 have b2_0 := hB2.b br1_0
 have b2_1 := hB2.b br1_1
 refine hK2 _ _ ?_
 have k2_4 := kt hg2 4 (hB2.is 7)
 refine wp_ret ?_
 refine leave_one (N := 12) (v := .int .i64 mo) (.inr rfl) Try.results40 rfl k2_4 ?_
 exact ⟨rfl, fB2⟩
set_option maxRecDepth 100000 in
set_option maxHeartbeats 8000000 in
theorem moist_2_1 (ps : Nat → Pa) (qs : Nat → Fu) (bp oP np cp bq oq nq cq : Nat) (tx ux cx tf uf cf pa0 pa1 pa2 pa3 pa4 fa0 fa1 : Nat) (PA0 PA1 PA2 PA3 PA4 : Pa) (FA0 FA1 : Fu) (wh : Int) (qv0 qv1 : Int) (sm mo : Int) (oo : Nat → Int) (w : World) (hP : PaR w bp oP np ps) (hQ : FuR w bq oq nq qs) (hpi : ∀ i, i < np → PaIn (ps i)) (hqi : ∀ i, i < nq → FuIn (qs i)) (np1 : 1 ≤ np) (np8 : np ≤ 8) (nq1 : 1 ≤ nq) (nq4 : nq ≤ 4) (hX : Ii w (some ⟨tx, ux, none⟩) 5 cx [(pa0 : Int), (pa1 : Int), (pa2 : Int), (pa3 : Int), (pa4 : Int)]) (hF : Ii w (some ⟨tf, uf, none⟩) 2 cf [(fa0 : Int), (fa1 : Int)]) (hpa0 : pa0 < np) (epa0 : ps pa0 = PA0) (hpa1 : pa1 < np) (epa1 : ps pa1 = PA1) (hpa2 : pa2 < np) (epa2 : ps pa2 = PA2) (hpa3 : pa3 < np) (epa3 : ps pa3 = PA3) (hpa4 : pa4 < np) (epa4 : ps pa4 = PA4) (hfa0 : fa0 < nq) (efa0 : qs fa0 = FA0) (hfa1 : fa1 < nq) (efa1 : qs fa1 = FA1) (hk0 : PA0.kind = 1) (hk1 : PA1.kind = 2) (hk2 : PA2.kind = 1) (hk3 : PA3.kind = 2) (hk4 : PA4.kind = 1) (hwh : FA0.pitch * FA1.pitch = wh) (gwh : 0 ≤ wh ∧ wh ≤ 100000000) (gw1 : 0 ≤ FA0.pitch ∧ FA0.pitch ≤ 10000) (hqv0 : wh / FA0.pitch = qv0) (gqv0 : 0 ≤ qv0 ∧ qv0 ≤ 100000000) (gqd0 : 0 ≤ qv0 * FA0.draw ∧ qv0 * FA0.draw ≤ 200000000) (gpi0 : 1000 ≤ FA0.pitch ∧ FA0.pitch ≤ 10000) (hqv1 : wh / FA1.pitch = qv1) (gqv1 : 0 ≤ qv1 ∧ qv1 ≤ 100000000) (gqd1 : 0 ≤ qv1 * FA1.draw ∧ qv1 * FA1.draw ≤ 200000000) (gpi1 : 1000 ≤ FA1.pitch ∧ FA1.pitch ≤ 10000) (gwp : 1 ≤ wh) (hsm : sumS oo (fun i => [wh, qv0 * FA0.draw, wh, qv1 * FA1.draw, wh].getD i 0) 5 = sm) (gsm : 0 ≤ sm ∧ sm ≤ 10000000000000000) (hmo : sm / (1000 * wh) = mo) (gmo : 0 ≤ mo ∧ mo ≤ 10000000000000000) (hoo : ∀ i, i < 5 → 0 ≤ oo i ∧ oo i ≤ 1200000) (hov0 : PA0.weight * (1000 + PA0.m1) = oo 0) (hov1 : PA1.weight * (1000 + PA1.m1) = oo 1) (hov2 : PA2.weight * (1000 + PA2.m1) = oo 2) (hov3 : PA3.weight * (1000 + PA3.m1) = oo 3) (hov4 : PA4.weight * (1000 + PA4.m1) = oo 4) :
  Calls Try.prog 40 #[.agg #[.slice (some ⟨tx, ux, none⟩) (5) (cx), .slice (some ⟨tf, uf, none⟩) (2) (cf), .slice (some ⟨bp, oP, none⟩) (np) (cp), .slice (some ⟨bq, oq, none⟩) (nq) (cq), .int .i64 wh], .func (.func 38) #[] #[]] w (fun e w' => e = .returned (.int .i64 mo) ∧ Below w.heap.size w w') := by
 refine calls_fr Try.func40 Try.ntmps40 rfl rfl fun g hg => ?_
 have k0 : g 0 = .agg #[.slice (some ⟨tx, ux, none⟩) (5) (cx), .slice (some ⟨tf, uf, none⟩) (2) (cf), .slice (some ⟨bp, oP, none⟩) (np) (cp), .slice (some ⟨bq, oq, none⟩) (nq) (cq), .int .i64 wh] := hg 0
 have k1 : g 1 = .func (.func 38) #[] #[] := hg 1
 clear hg
 have fB0 : Below w.heap.size w w := Below.refl _ _
 refine wp_seq_k fun K1 hK1 => ?_
 refine region_dk 3 [(2, 0), (3, 1), (4, 2)] [[], [], []] (rel [bx 0 #[.slice (some ⟨tx, ux, none⟩) (5) (cx), .slice (some ⟨tf, uf, none⟩) (2) (cf), .slice (some ⟨bp, oP, none⟩) (np) (cp), .slice (some ⟨bq, oq, none⟩) (nq) (cq), .int .i64 wh] 72,
   bx 1 #[.func (.func 38) #[] #[]] 100,
   is (.int .i64 0)])
  ⟨bx_k, bx_k, is_k, trivial⟩
  ⟨fun f s W c d j k l a => opb rfl rfl (by simp [go_sem, a.e 0 k0]),
  fun f s W c d j k l a => opb rfl rfl (by simp [go_sem, a.e 1 k1]),
  fun f s W c d j k l a => opv rfl rfl (by simp [go_sem]) rfl, trivial⟩ ?_
 intro f1 s1 W1 hB1 g1 hg1
 have fB1 := hB1.f fB0
 have z1 := hB1.below.size
 obtain ⟨r1_0, br1_0⟩ := hB1.is 0
 have lr1_0 := hB1.lr 0 br1_0
 obtain ⟨r1_1, br1_1⟩ := hB1.is 1
 have lr1_1 := hB1.lr 1 br1_1
 have ne1_0_1 := hB1.nb 0 1
 refine hK1 _ _ ?_
 have k1_2 := kt hg1 2 r1_0
 have k1_3 := kt hg1 3 r1_1
 have k1_4 := kt hg1 4 (hB1.is 2)
 refine wp_seq_k fun K2 hK2 => ?_
 refine region_dk 8 [(5, 0), (6, 1), (7, 2), (8, 3), (9, 4), (10, 5), (11, 6), (4, 7)] [[], [], [0, 1], [], [3], [3, 4], [0, 1, 2, 3, 4, 5], [0, 1, 2, 3, 4, 5, 6]] (rel [is (.agg #[.slice (some ⟨tx, ux, none⟩) (5) (cx), .slice (some ⟨tf, uf, none⟩) (2) (cf), .slice (some ⟨bp, oP, none⟩) (np) (cp), .slice (some ⟨bq, oq, none⟩) (nq) (cq), .int .i64 wh]),
   is (.func (.func 63) #[] #[.pointer (some ⟨(s1 1), 0, none⟩)]),
   is (.int .i64 sm),
   is (.pointer (some ⟨(s1 0), 4, none⟩)),
   is (.int .i64 wh),
   is (.int .i64 (1000 * wh)),
   is (.int .i64 mo),
   is (.int .i64 mo)])
  ⟨is_k, is_k, is_k, is_k, is_k, is_k, is_k, is_k, trivial⟩
  ⟨fun f s W c d j k l a => opv rfl rfl (by simp [go_sem, a.e 2 k1_2, cb br1_0 c 0, cb br1_0 c 1, cb br1_0 c 2, cb br1_0 c 3, cb br1_0 c 4]) rfl,
  fun f s W c d j k l a => opv rfl rfl (by simp [go_sem, a.e 3 k1_3]) rfl,
  fun f s W c d j k l a => by have m := below_trans fB1 c; exact opDo_call rfl rfl (by simp [go_sem, a.e 5 (d 0 rfl), a.e 6 (d 1 rfl)]) (sumL_2 ps qs bp oP np cp bq oq nq cq tx ux cx tf uf cf pa0 pa1 pa2 pa3 pa4 fa0 fa1 PA0 PA1 PA2 PA3 PA4 FA0 FA1 wh qv0 qv1 W (hP.below m) (hQ.below m) hpi hqi np1 np8 nq1 nq4 (hX.below m (Nat.le_refl _)) (hF.below m (Nat.le_refl _)) hpa0 epa0 hpa1 epa1 hpa2 epa2 hpa3 epa3 hpa4 epa4 hfa0 efa0 hfa1 efa1 hk0 hk1 hk2 hk3 hk4 hwh gwh gw1 hqv0 gqv0 gqd0 gpi0 hqv1 gqv1 gqd1 gpi1 63 #[.pointer (some ⟨(s1 1), 0, none⟩)] (fun xs w => by simp [go_sem]) oo hoo (fun W' hb' => by rw [show (#[.agg #[.int .i64 PA0.kind, .int .i64 PA0.weight, .int .i64 PA0.t1, .int .i64 PA0.t2, .int .i64 PA0.m1, .int .i64 PA0.m2, .int .i64 PA0.price, .int .i64 PA0.strong]] ++ #[.pointer (some ⟨(s1 1), 0, none⟩)] : Array Value) = #[.agg #[.int .i64 PA0.kind, .int .i64 PA0.weight, .int .i64 PA0.t1, .int .i64 PA0.t2, .int .i64 PA0.m1, .int .i64 PA0.m2, .int .i64 PA0.price, .int .i64 PA0.strong], .pointer (some ⟨(s1 1), 0, none⟩)] from by simp, ← hov0]; exact moistP_1 PA0 (epa0 ▸ hpi pa0 hpa0) (s1 1) W' (blk_below (blk_below br1_1 c) hb') (by rw [hov0]; exact hoo 0 (by decide))) (fun W' hb' => by rw [show (#[.agg #[.int .i64 PA1.kind, .int .i64 PA1.weight, .int .i64 PA1.t1, .int .i64 PA1.t2, .int .i64 PA1.m1, .int .i64 PA1.m2, .int .i64 PA1.price, .int .i64 PA1.strong]] ++ #[.pointer (some ⟨(s1 1), 0, none⟩)] : Array Value) = #[.agg #[.int .i64 PA1.kind, .int .i64 PA1.weight, .int .i64 PA1.t1, .int .i64 PA1.t2, .int .i64 PA1.m1, .int .i64 PA1.m2, .int .i64 PA1.price, .int .i64 PA1.strong], .pointer (some ⟨(s1 1), 0, none⟩)] from by simp, ← hov1]; exact moistP_1 PA1 (epa1 ▸ hpi pa1 hpa1) (s1 1) W' (blk_below (blk_below br1_1 c) hb') (by rw [hov1]; exact hoo 1 (by decide))) (fun W' hb' => by rw [show (#[.agg #[.int .i64 PA2.kind, .int .i64 PA2.weight, .int .i64 PA2.t1, .int .i64 PA2.t2, .int .i64 PA2.m1, .int .i64 PA2.m2, .int .i64 PA2.price, .int .i64 PA2.strong]] ++ #[.pointer (some ⟨(s1 1), 0, none⟩)] : Array Value) = #[.agg #[.int .i64 PA2.kind, .int .i64 PA2.weight, .int .i64 PA2.t1, .int .i64 PA2.t2, .int .i64 PA2.m1, .int .i64 PA2.m2, .int .i64 PA2.price, .int .i64 PA2.strong], .pointer (some ⟨(s1 1), 0, none⟩)] from by simp, ← hov2]; exact moistP_1 PA2 (epa2 ▸ hpi pa2 hpa2) (s1 1) W' (blk_below (blk_below br1_1 c) hb') (by rw [hov2]; exact hoo 2 (by decide))) (fun W' hb' => by rw [show (#[.agg #[.int .i64 PA3.kind, .int .i64 PA3.weight, .int .i64 PA3.t1, .int .i64 PA3.t2, .int .i64 PA3.m1, .int .i64 PA3.m2, .int .i64 PA3.price, .int .i64 PA3.strong]] ++ #[.pointer (some ⟨(s1 1), 0, none⟩)] : Array Value) = #[.agg #[.int .i64 PA3.kind, .int .i64 PA3.weight, .int .i64 PA3.t1, .int .i64 PA3.t2, .int .i64 PA3.m1, .int .i64 PA3.m2, .int .i64 PA3.price, .int .i64 PA3.strong], .pointer (some ⟨(s1 1), 0, none⟩)] from by simp, ← hov3]; exact moistP_1 PA3 (epa3 ▸ hpi pa3 hpa3) (s1 1) W' (blk_below (blk_below br1_1 c) hb') (by rw [hov3]; exact hoo 3 (by decide))) (fun W' hb' => by rw [show (#[.agg #[.int .i64 PA4.kind, .int .i64 PA4.weight, .int .i64 PA4.t1, .int .i64 PA4.t2, .int .i64 PA4.m1, .int .i64 PA4.m2, .int .i64 PA4.price, .int .i64 PA4.strong]] ++ #[.pointer (some ⟨(s1 1), 0, none⟩)] : Array Value) = #[.agg #[.int .i64 PA4.kind, .int .i64 PA4.weight, .int .i64 PA4.t1, .int .i64 PA4.t2, .int .i64 PA4.m1, .int .i64 PA4.m2, .int .i64 PA4.price, .int .i64 PA4.strong], .pointer (some ⟨(s1 1), 0, none⟩)] from by simp, ← hov4]; exact moistP_1 PA4 (epa4 ▸ hpi pa4 hpa4) (s1 1) W' (blk_below (blk_below br1_1 c) hb') (by rw [hov4]; exact hoo 4 (by decide)))) ((fun e W' h => by have h1 := h.1; rw [hsm] at h1; exact ⟨_, h1, h.2, rfl⟩)),
  fun f s W c d j k l a => opv rfl rfl (by simp [go_sem, a.e 2 k1_2]) rfl,
  fun f s W c d j k l a => opv rfl rfl (by simp [go_sem, a.e 8 (d 3 rfl), cb br1_0 c 4]) rfl,
  fun f s W c d j k l a => opv rfl rfl (by simp [go_sem, a.e 9 (d 4 rfl), IntWalk.i64_in (1000 * wh) (by omega)]) rfl,
  fun f s W c d j k l a => by have qu_ : (sm).tdiv (1000 * wh) = mo := (Int.tdiv_eq_ediv_of_nonneg (by omega)).trans hmo; have qw_ := IntWalk.i64_in (mo) (by omega); have qz_ : ¬ (1000 * wh) = 0 := (by omega); exact opv rfl rfl (by simp [go_sem, a.e 7 (d 2 rfl), a.e 10 (d 5 rfl), qu_, qw_, qz_]) rfl,
  fun f s W c d j k l a => opv rfl rfl (by simp [go_sem, a.e 11 (d 6 rfl)]) rfl, trivial⟩ ?_
 intro f2 s2 W2 hB2 g2 hg2
 have fB2 := hB2.f fB1
 have z2 := hB2.below.size
 have b2_0 := hB2.b br1_0
 have b2_1 := hB2.b br1_1
 refine hK2 _ _ ?_
 have k2_4 := kt hg2 4 (hB2.is 7)
 refine wp_ret ?_
 refine leave_one (N := 12) (v := .int .i64 mo) (.inr rfl) Try.results40 rfl k2_4 ?_
 exact ⟨rfl, fB2⟩
set_option maxRecDepth 100000 in
set_option maxHeartbeats 8000000 in
theorem moist_2_2 (ps : Nat → Pa) (qs : Nat → Fu) (bp oP np cp bq oq nq cq : Nat) (tx ux cx tf uf cf pa0 pa1 pa2 pa3 pa4 fa0 fa1 : Nat) (PA0 PA1 PA2 PA3 PA4 : Pa) (FA0 FA1 : Fu) (wh : Int) (qv0 qv1 : Int) (sm mo : Int) (oo : Nat → Int) (w : World) (hP : PaR w bp oP np ps) (hQ : FuR w bq oq nq qs) (hpi : ∀ i, i < np → PaIn (ps i)) (hqi : ∀ i, i < nq → FuIn (qs i)) (np1 : 1 ≤ np) (np8 : np ≤ 8) (nq1 : 1 ≤ nq) (nq4 : nq ≤ 4) (hX : Ii w (some ⟨tx, ux, none⟩) 5 cx [(pa0 : Int), (pa1 : Int), (pa2 : Int), (pa3 : Int), (pa4 : Int)]) (hF : Ii w (some ⟨tf, uf, none⟩) 2 cf [(fa0 : Int), (fa1 : Int)]) (hpa0 : pa0 < np) (epa0 : ps pa0 = PA0) (hpa1 : pa1 < np) (epa1 : ps pa1 = PA1) (hpa2 : pa2 < np) (epa2 : ps pa2 = PA2) (hpa3 : pa3 < np) (epa3 : ps pa3 = PA3) (hpa4 : pa4 < np) (epa4 : ps pa4 = PA4) (hfa0 : fa0 < nq) (efa0 : qs fa0 = FA0) (hfa1 : fa1 < nq) (efa1 : qs fa1 = FA1) (hk0 : PA0.kind = 1) (hk1 : PA1.kind = 2) (hk2 : PA2.kind = 1) (hk3 : PA3.kind = 2) (hk4 : PA4.kind = 1) (hwh : FA0.pitch * FA1.pitch = wh) (gwh : 0 ≤ wh ∧ wh ≤ 100000000) (gw1 : 0 ≤ FA0.pitch ∧ FA0.pitch ≤ 10000) (hqv0 : wh / FA0.pitch = qv0) (gqv0 : 0 ≤ qv0 ∧ qv0 ≤ 100000000) (gqd0 : 0 ≤ qv0 * FA0.draw ∧ qv0 * FA0.draw ≤ 200000000) (gpi0 : 1000 ≤ FA0.pitch ∧ FA0.pitch ≤ 10000) (hqv1 : wh / FA1.pitch = qv1) (gqv1 : 0 ≤ qv1 ∧ qv1 ≤ 100000000) (gqd1 : 0 ≤ qv1 * FA1.draw ∧ qv1 * FA1.draw ≤ 200000000) (gpi1 : 1000 ≤ FA1.pitch ∧ FA1.pitch ≤ 10000) (gwp : 1 ≤ wh) (hsm : sumS oo (fun i => [wh, qv0 * FA0.draw, wh, qv1 * FA1.draw, wh].getD i 0) 5 = sm) (gsm : 0 ≤ sm ∧ sm ≤ 10000000000000000) (hmo : sm / (1000 * wh) = mo) (gmo : 0 ≤ mo ∧ mo ≤ 10000000000000000) (hoo : ∀ i, i < 5 → 0 ≤ oo i ∧ oo i ≤ 1200000) (hov0 : PA0.weight * (1000 + PA0.m2) = oo 0) (hov1 : PA1.weight * (1000 + PA1.m2) = oo 1) (hov2 : PA2.weight * (1000 + PA2.m2) = oo 2) (hov3 : PA3.weight * (1000 + PA3.m2) = oo 3) (hov4 : PA4.weight * (1000 + PA4.m2) = oo 4) :
  Calls Try.prog 40 #[.agg #[.slice (some ⟨tx, ux, none⟩) (5) (cx), .slice (some ⟨tf, uf, none⟩) (2) (cf), .slice (some ⟨bp, oP, none⟩) (np) (cp), .slice (some ⟨bq, oq, none⟩) (nq) (cq), .int .i64 wh], .func (.func 39) #[] #[]] w (fun e w' => e = .returned (.int .i64 mo) ∧ Below w.heap.size w w') := by
 refine calls_fr Try.func40 Try.ntmps40 rfl rfl fun g hg => ?_
 have k0 : g 0 = .agg #[.slice (some ⟨tx, ux, none⟩) (5) (cx), .slice (some ⟨tf, uf, none⟩) (2) (cf), .slice (some ⟨bp, oP, none⟩) (np) (cp), .slice (some ⟨bq, oq, none⟩) (nq) (cq), .int .i64 wh] := hg 0
 have k1 : g 1 = .func (.func 39) #[] #[] := hg 1
 clear hg
 have fB0 : Below w.heap.size w w := Below.refl _ _
 refine wp_seq_k fun K1 hK1 => ?_
 refine region_dk 3 [(2, 0), (3, 1), (4, 2)] [[], [], []] (rel [bx 0 #[.slice (some ⟨tx, ux, none⟩) (5) (cx), .slice (some ⟨tf, uf, none⟩) (2) (cf), .slice (some ⟨bp, oP, none⟩) (np) (cp), .slice (some ⟨bq, oq, none⟩) (nq) (cq), .int .i64 wh] 72,
   bx 1 #[.func (.func 39) #[] #[]] 100,
   is (.int .i64 0)])
  ⟨bx_k, bx_k, is_k, trivial⟩
  ⟨fun f s W c d j k l a => opb rfl rfl (by simp [go_sem, a.e 0 k0]),
  fun f s W c d j k l a => opb rfl rfl (by simp [go_sem, a.e 1 k1]),
  fun f s W c d j k l a => opv rfl rfl (by simp [go_sem]) rfl, trivial⟩ ?_
 intro f1 s1 W1 hB1 g1 hg1
 have fB1 := hB1.f fB0
 have z1 := hB1.below.size
 obtain ⟨r1_0, br1_0⟩ := hB1.is 0
 have lr1_0 := hB1.lr 0 br1_0
 obtain ⟨r1_1, br1_1⟩ := hB1.is 1
 have lr1_1 := hB1.lr 1 br1_1
 have ne1_0_1 := hB1.nb 0 1
 refine hK1 _ _ ?_
 have k1_2 := kt hg1 2 r1_0
 have k1_3 := kt hg1 3 r1_1
 have k1_4 := kt hg1 4 (hB1.is 2)
 refine wp_seq_k fun K2 hK2 => ?_
 refine region_dk 8 [(5, 0), (6, 1), (7, 2), (8, 3), (9, 4), (10, 5), (11, 6), (4, 7)] [[], [], [0, 1], [], [3], [3, 4], [0, 1, 2, 3, 4, 5], [0, 1, 2, 3, 4, 5, 6]] (rel [is (.agg #[.slice (some ⟨tx, ux, none⟩) (5) (cx), .slice (some ⟨tf, uf, none⟩) (2) (cf), .slice (some ⟨bp, oP, none⟩) (np) (cp), .slice (some ⟨bq, oq, none⟩) (nq) (cq), .int .i64 wh]),
   is (.func (.func 63) #[] #[.pointer (some ⟨(s1 1), 0, none⟩)]),
   is (.int .i64 sm),
   is (.pointer (some ⟨(s1 0), 4, none⟩)),
   is (.int .i64 wh),
   is (.int .i64 (1000 * wh)),
   is (.int .i64 mo),
   is (.int .i64 mo)])
  ⟨is_k, is_k, is_k, is_k, is_k, is_k, is_k, is_k, trivial⟩
  ⟨fun f s W c d j k l a => opv rfl rfl (by simp [go_sem, a.e 2 k1_2, cb br1_0 c 0, cb br1_0 c 1, cb br1_0 c 2, cb br1_0 c 3, cb br1_0 c 4]) rfl,
  fun f s W c d j k l a => opv rfl rfl (by simp [go_sem, a.e 3 k1_3]) rfl,
  fun f s W c d j k l a => by have m := below_trans fB1 c; exact opDo_call rfl rfl (by simp [go_sem, a.e 5 (d 0 rfl), a.e 6 (d 1 rfl)]) (sumL_2 ps qs bp oP np cp bq oq nq cq tx ux cx tf uf cf pa0 pa1 pa2 pa3 pa4 fa0 fa1 PA0 PA1 PA2 PA3 PA4 FA0 FA1 wh qv0 qv1 W (hP.below m) (hQ.below m) hpi hqi np1 np8 nq1 nq4 (hX.below m (Nat.le_refl _)) (hF.below m (Nat.le_refl _)) hpa0 epa0 hpa1 epa1 hpa2 epa2 hpa3 epa3 hpa4 epa4 hfa0 efa0 hfa1 efa1 hk0 hk1 hk2 hk3 hk4 hwh gwh gw1 hqv0 gqv0 gqd0 gpi0 hqv1 gqv1 gqd1 gpi1 63 #[.pointer (some ⟨(s1 1), 0, none⟩)] (fun xs w => by simp [go_sem]) oo hoo (fun W' hb' => by rw [show (#[.agg #[.int .i64 PA0.kind, .int .i64 PA0.weight, .int .i64 PA0.t1, .int .i64 PA0.t2, .int .i64 PA0.m1, .int .i64 PA0.m2, .int .i64 PA0.price, .int .i64 PA0.strong]] ++ #[.pointer (some ⟨(s1 1), 0, none⟩)] : Array Value) = #[.agg #[.int .i64 PA0.kind, .int .i64 PA0.weight, .int .i64 PA0.t1, .int .i64 PA0.t2, .int .i64 PA0.m1, .int .i64 PA0.m2, .int .i64 PA0.price, .int .i64 PA0.strong], .pointer (some ⟨(s1 1), 0, none⟩)] from by simp, ← hov0]; exact moistP_2 PA0 (epa0 ▸ hpi pa0 hpa0) (s1 1) W' (blk_below (blk_below br1_1 c) hb') (by rw [hov0]; exact hoo 0 (by decide))) (fun W' hb' => by rw [show (#[.agg #[.int .i64 PA1.kind, .int .i64 PA1.weight, .int .i64 PA1.t1, .int .i64 PA1.t2, .int .i64 PA1.m1, .int .i64 PA1.m2, .int .i64 PA1.price, .int .i64 PA1.strong]] ++ #[.pointer (some ⟨(s1 1), 0, none⟩)] : Array Value) = #[.agg #[.int .i64 PA1.kind, .int .i64 PA1.weight, .int .i64 PA1.t1, .int .i64 PA1.t2, .int .i64 PA1.m1, .int .i64 PA1.m2, .int .i64 PA1.price, .int .i64 PA1.strong], .pointer (some ⟨(s1 1), 0, none⟩)] from by simp, ← hov1]; exact moistP_2 PA1 (epa1 ▸ hpi pa1 hpa1) (s1 1) W' (blk_below (blk_below br1_1 c) hb') (by rw [hov1]; exact hoo 1 (by decide))) (fun W' hb' => by rw [show (#[.agg #[.int .i64 PA2.kind, .int .i64 PA2.weight, .int .i64 PA2.t1, .int .i64 PA2.t2, .int .i64 PA2.m1, .int .i64 PA2.m2, .int .i64 PA2.price, .int .i64 PA2.strong]] ++ #[.pointer (some ⟨(s1 1), 0, none⟩)] : Array Value) = #[.agg #[.int .i64 PA2.kind, .int .i64 PA2.weight, .int .i64 PA2.t1, .int .i64 PA2.t2, .int .i64 PA2.m1, .int .i64 PA2.m2, .int .i64 PA2.price, .int .i64 PA2.strong], .pointer (some ⟨(s1 1), 0, none⟩)] from by simp, ← hov2]; exact moistP_2 PA2 (epa2 ▸ hpi pa2 hpa2) (s1 1) W' (blk_below (blk_below br1_1 c) hb') (by rw [hov2]; exact hoo 2 (by decide))) (fun W' hb' => by rw [show (#[.agg #[.int .i64 PA3.kind, .int .i64 PA3.weight, .int .i64 PA3.t1, .int .i64 PA3.t2, .int .i64 PA3.m1, .int .i64 PA3.m2, .int .i64 PA3.price, .int .i64 PA3.strong]] ++ #[.pointer (some ⟨(s1 1), 0, none⟩)] : Array Value) = #[.agg #[.int .i64 PA3.kind, .int .i64 PA3.weight, .int .i64 PA3.t1, .int .i64 PA3.t2, .int .i64 PA3.m1, .int .i64 PA3.m2, .int .i64 PA3.price, .int .i64 PA3.strong], .pointer (some ⟨(s1 1), 0, none⟩)] from by simp, ← hov3]; exact moistP_2 PA3 (epa3 ▸ hpi pa3 hpa3) (s1 1) W' (blk_below (blk_below br1_1 c) hb') (by rw [hov3]; exact hoo 3 (by decide))) (fun W' hb' => by rw [show (#[.agg #[.int .i64 PA4.kind, .int .i64 PA4.weight, .int .i64 PA4.t1, .int .i64 PA4.t2, .int .i64 PA4.m1, .int .i64 PA4.m2, .int .i64 PA4.price, .int .i64 PA4.strong]] ++ #[.pointer (some ⟨(s1 1), 0, none⟩)] : Array Value) = #[.agg #[.int .i64 PA4.kind, .int .i64 PA4.weight, .int .i64 PA4.t1, .int .i64 PA4.t2, .int .i64 PA4.m1, .int .i64 PA4.m2, .int .i64 PA4.price, .int .i64 PA4.strong], .pointer (some ⟨(s1 1), 0, none⟩)] from by simp, ← hov4]; exact moistP_2 PA4 (epa4 ▸ hpi pa4 hpa4) (s1 1) W' (blk_below (blk_below br1_1 c) hb') (by rw [hov4]; exact hoo 4 (by decide)))) ((fun e W' h => by have h1 := h.1; rw [hsm] at h1; exact ⟨_, h1, h.2, rfl⟩)),
  fun f s W c d j k l a => opv rfl rfl (by simp [go_sem, a.e 2 k1_2]) rfl,
  fun f s W c d j k l a => opv rfl rfl (by simp [go_sem, a.e 8 (d 3 rfl), cb br1_0 c 4]) rfl,
  fun f s W c d j k l a => opv rfl rfl (by simp [go_sem, a.e 9 (d 4 rfl), IntWalk.i64_in (1000 * wh) (by omega)]) rfl,
  fun f s W c d j k l a => by have qu_ : (sm).tdiv (1000 * wh) = mo := (Int.tdiv_eq_ediv_of_nonneg (by omega)).trans hmo; have qw_ := IntWalk.i64_in (mo) (by omega); have qz_ : ¬ (1000 * wh) = 0 := (by omega); exact opv rfl rfl (by simp [go_sem, a.e 7 (d 2 rfl), a.e 10 (d 5 rfl), qu_, qw_, qz_]) rfl,
  fun f s W c d j k l a => opv rfl rfl (by simp [go_sem, a.e 11 (d 6 rfl)]) rfl, trivial⟩ ?_
 intro f2 s2 W2 hB2 g2 hg2
 have fB2 := hB2.f fB1
 have z2 := hB2.below.size
 have b2_0 := hB2.b br1_0
 have b2_1 := hB2.b br1_1
 refine hK2 _ _ ?_
 have k2_4 := kt hg2 4 (hB2.is 7)
 refine wp_ret ?_
 refine leave_one (N := 12) (v := .int .i64 mo) (.inr rfl) Try.results40 rfl k2_4 ?_
 exact ⟨rfl, fB2⟩
end Go.Proofs.Ytiocklgakklkpaa
