/- Part of the proof: what the claim leans on. -/
import Derived.Test.YtiocklgakklkpaaNAO
import Derived.Test.YtiocklgakklkpaaNAP
import Derived.Test.YtiocklgakklkpaaNAI
set_option linter.unusedSimpArgs false
set_option linter.unusedVariables false
namespace Go.Proofs.Ytiocklgakklkpaa
open Go.RowKit
set_option maxRecDepth 100000 in
set_option maxHeartbeats 8000000 in
theorem moist_1_1 (ps : Nat → Pa) (qs : Nat → Fu) (bp oP np cp bq oq nq cq : Nat) (tx ux cx tf uf cf pa0 pa1 pa2 fa0 : Nat) (PA0 PA1 PA2 : Pa) (FA0 : Fu) (wh : Int) (qv0 : Int) (sm mo : Int) (oo : Nat → Int) (w : World) (hP : PaR w bp oP np ps) (hQ : FuR w bq oq nq qs) (hpi : ∀ i, i < np → PaIn (ps i)) (hqi : ∀ i, i < nq → FuIn (qs i)) (np1 : 1 ≤ np) (np8 : np ≤ 8) (nq1 : 1 ≤ nq) (nq4 : nq ≤ 4) (hX : Ii w (some ⟨tx, ux, none⟩) 3 cx [(pa0 : Int), (pa1 : Int), (pa2 : Int)]) (hF : Ii w (some ⟨tf, uf, none⟩) 1 cf [(fa0 : Int)]) (hpa0 : pa0 < np) (epa0 : ps pa0 = PA0) (hpa1 : pa1 < np) (epa1 : ps pa1 = PA1) (hpa2 : pa2 < np) (epa2 : ps pa2 = PA2) (hfa0 : fa0 < nq) (efa0 : qs fa0 = FA0) (hk0 : PA0.kind = 1) (hk1 : PA1.kind = 2) (hk2 : PA2.kind = 1) (hwh : FA0.pitch = wh) (gwh : 0 ≤ wh ∧ wh ≤ 100000000) (gw1 : 0 ≤ FA0.pitch ∧ FA0.pitch ≤ 10000) (hqv0 : wh / FA0.pitch = qv0) (gqv0 : 0 ≤ qv0 ∧ qv0 ≤ 100000000) (gqd0 : 0 ≤ qv0 * FA0.draw ∧ qv0 * FA0.draw ≤ 200000000) (gpi0 : 1000 ≤ FA0.pitch ∧ FA0.pitch ≤ 10000) (gwp : 1 ≤ wh) (hsm : sumS oo (fun i => [wh, qv0 * FA0.draw, wh].getD i 0) 3 = sm) (gsm : 0 ≤ sm ∧ sm ≤ 10000000000000000) (hmo : sm / (1000 * wh) = mo) (gmo : 0 ≤ mo ∧ mo ≤ 10000000000000000) (hoo : ∀ i, i < 3 → 0 ≤ oo i ∧ oo i ≤ 1200000) (hov0 : PA0.weight * (1000 + PA0.m1) = oo 0) (hov1 : PA1.weight * (1000 + PA1.m1) = oo 1) (hov2 : PA2.weight * (1000 + PA2.m1) = oo 2) :
  Calls Try.prog 40 #[.agg #[.slice (some ⟨tx, ux, none⟩) (3) (cx), .slice (some ⟨tf, uf, none⟩) (1) (cf), .slice (some ⟨bp, oP, none⟩) (np) (cp), .slice (some ⟨bq, oq, none⟩) (nq) (cq), .int .i64 wh], .func (.func 38) #[] #[]] w (fun e w' => e = .returned (.int .i64 mo) ∧ Below w.heap.size w w') := by
 refine calls_fr Try.func40 Try.ntmps40 rfl rfl fun g hg => ?_
 have k0 : g 0 = .agg #[.slice (some ⟨tx, ux, none⟩) (3) (cx), .slice (some ⟨tf, uf, none⟩) (1) (cf), .slice (some ⟨bp, oP, none⟩) (np) (cp), .slice (some ⟨bq, oq, none⟩) (nq) (cq), .int .i64 wh] := hg 0
 have k1 : g 1 = .func (.func 38) #[] #[] := hg 1
 clear hg
 have fB0 : Below w.heap.size w w := Below.refl _ _
 refine wp_seq_k fun K1 hK1 => ?_
 refine region_dk 3 [(2, 0), (3, 1), (4, 2)] [[], [], []] (rel [bx 0 #[.slice (some ⟨tx, ux, none⟩) (3) (cx), .slice (some ⟨tf, uf, none⟩) (1) (cf), .slice (some ⟨bp, oP, none⟩) (np) (cp), .slice (some ⟨bq, oq, none⟩) (nq) (cq), .int .i64 wh] 72,
   bx 1 #[.func (.func 38) #[] #[]] 100,
   is (.int .i64 0)])
  ⟨bx_k, bx_k, is_k, trivial⟩
  ⟨fun f s W c d j k l a => opb rfl rfl (by simp [go_sem, a.e 0 k0]),
  fun f s W c d j k l a => opb rfl rfl (by simp [go_sem, a.e 1 k1]),
  fun f s W c d j k l a => opv rfl rfl (by simp [go_sem]) rfl, trivial⟩ ?_
 intro f1 s1 W1 hB1 g1 hg1
 have fB1 := hB1.f fB0
 have z1 := hB1.below.size
 obtain ⟨r1_0, br1_0⟩ := hB1.is 0
 have lr1_0 := hB1.lr 0 br1_0
 obtain ⟨r1_1, br1_1⟩ := hB1.is 1
 have lr1_1 := hB1.lr 1 br1_1
 have ne1_0_1 := hB1.nb 0 1
 refine hK1 _ _ ?_
 have k1_2 := kt hg1 2 r1_0
 have k1_3 := kt hg1 3 r1_1
 have k1_4 := kt hg1 4 (hB1.is 2)
 refine wp_seq_k fun K2 hK2 => ?_
 refine region_dk 8 [(5, 0), (6, 1), (7, 2), (8, 3), (9, 4), (10, 5), (11, 6), (4, 7)] [[], [], [0, 1], [], [3], [3, 4], [0, 1, 2, 3, 4, 5], [0, 1, 2, 3, 4, 5, 6]] (rel [is (.agg #[.slice (some ⟨tx, ux, none⟩) (3) (cx), .slice (some ⟨tf, uf, none⟩) (1) (cf), .slice (some ⟨bp, oP, none⟩) (np) (cp), .slice (some ⟨bq, oq, none⟩) (nq) (cq), .int .i64 wh]),
   is (.func (.func 63) #[] #[.pointer (some ⟨(s1 1), 0, none⟩)]),
   is (.int .i64 sm),
   is (.pointer (some ⟨(s1 0), 4, none⟩)),
   is (.int .i64 wh),
   is (.int .i64 (1000 * wh)),
   is (.int .i64 mo),
   is (.int .i64 mo)])
  ⟨is_k, is_k, is_k, is_k, is_k, is_k, is_k, is_k, trivial⟩
  ⟨fun f s W c d j k l a => opv rfl rfl (by simp [go_sem, a.e 2 k1_2, cb br1_0 c 0, cb br1_0 c 1, cb br1_0 c 2, cb br1_0 c 3, cb br1_0 c 4]) rfl,
  fun f s W c d j k l a => opv rfl rfl (by simp [go_sem, a.e 3 k1_3]) rfl,
  fun f s W c d j k l a => by have m := below_trans fB1 c; exact opDo_call rfl rfl (by simp [go_sem, a.e 5 (d 0 rfl), a.e 6 (d 1 rfl)]) (sumL_1 ps qs bp oP np cp bq oq nq cq tx ux cx tf uf cf pa0 pa1 pa2 fa0 PA0 PA1 PA2 FA0 wh qv0 W (hP.below m) (hQ.below m) hpi hqi np1 np8 nq1 nq4 (hX.below m (Nat.le_refl _)) (hF.below m (Nat.le_refl _)) hpa0 epa0 hpa1 epa1 hpa2 epa2 hfa0 efa0 hk0 hk1 hk2 hwh gwh gw1 hqv0 gqv0 gqd0 gpi0 63 #[.pointer (some ⟨(s1 1), 0, none⟩)] (fun xs w => by simp [go_sem]) oo hoo (fun W' hb' => by rw [show (#[.agg #[.int .i64 PA0.kind, .int .i64 PA0.weight, .int .i64 PA0.t1, .int .i64 PA0.t2, .int .i64 PA0.m1, .int .i64 PA0.m2, .int .i64 PA0.price, .int .i64 PA0.strong]] ++ #[.pointer (some ⟨(s1 1), 0, none⟩)] : Array Value) = #[.agg #[.int .i64 PA0.kind, .int .i64 PA0.weight, .int .i64 PA0.t1, .int .i64 PA0.t2, .int .i64 PA0.m1, .int .i64 PA0.m2, .int .i64 PA0.price, .int .i64 PA0.strong], .pointer (some ⟨(s1 1), 0, none⟩)] from by simp, ← hov0]; exact moistP_1 PA0 (epa0 ▸ hpi pa0 hpa0) (s1 1) W' (blk_below (blk_below br1_1 c) hb') (by rw [hov0]; exact hoo 0 (by decide))) (fun W' hb' => by rw [show (#[.agg #[.int .i64 PA1.kind, .int .i64 PA1.weight, .int .i64 PA1.t1, .int .i64 PA1.t2, .int .i64 PA1.m1, .int .i64 PA1.m2, .int .i64 PA1.price, .int .i64 PA1.strong]] ++ #[.pointer (some ⟨(s1 1), 0, none⟩)] : Array Value) = #[.agg #[.int .i64 PA1.kind, .int .i64 PA1.weight, .int .i64 PA1.t1, .int .i64 PA1.t2, .int .i64 PA1.m1, .int .i64 PA1.m2, .int .i64 PA1.price, .int .i64 PA1.strong], .pointer (some ⟨(s1 1), 0, none⟩)] from by simp, ← hov1]; exact moistP_1 PA1 (epa1 ▸ hpi pa1 hpa1) (s1 1) W' (blk_below (blk_below br1_1 c) hb') (by rw [hov1]; exact hoo 1 (by decide))) (fun W' hb' => by rw [show (#[.agg #[.int .i64 PA2.kind, .int .i64 PA2.weight, .int .i64 PA2.t1, .int .i64 PA2.t2, .int .i64 PA2.m1, .int .i64 PA2.m2, .int .i64 PA2.price, .int .i64 PA2.strong]] ++ #[.pointer (some ⟨(s1 1), 0, none⟩)] : Array Value) = #[.agg #[.int .i64 PA2.kind, .int .i64 PA2.weight, .int .i64 PA2.t1, .int .i64 PA2.t2, .int .i64 PA2.m1, .int .i64 PA2.m2, .int .i64 PA2.price, .int .i64 PA2.strong], .pointer (some ⟨(s1 1), 0, none⟩)] from by simp, ← hov2]; exact moistP_1 PA2 (epa2 ▸ hpi pa2 hpa2) (s1 1) W' (blk_below (blk_below br1_1 c) hb') (by rw [hov2]; exact hoo 2 (by decide)))) ((fun e W' h => by have h1 := h.1; rw [hsm] at h1; exact ⟨_, h1, h.2, rfl⟩)),
  fun f s W c d j k l a => opv rfl rfl (by simp [go_sem, a.e 2 k1_2]) rfl,
  fun f s W c d j k l a => opv rfl rfl (by simp [go_sem, a.e 8 (d 3 rfl), cb br1_0 c 4]) rfl,
  fun f s W c d j k l a => opv rfl rfl (by simp [go_sem, a.e 9 (d 4 rfl), IntWalk.i64_in (1000 * wh) (by omega)]) rfl,
  fun f s W c d j k l a => by have qu_ : (sm).tdiv (1000 * wh) = mo := (Int.tdiv_eq_ediv_of_nonneg (by omega)).trans hmo; have qw_ := IntWalk.i64_in (mo) (by omega); have qz_ : ¬ (1000 * wh) = 0 := (by omega); exact opv rfl rfl (by simp [go_sem, a.e 7 (d 2 rfl), a.e 10 (d 5 rfl), qu_, qw_, qz_]) rfl,
  fun f s W c d j k l a => opv rfl rfl (by simp [go_sem, a.e 11 (d 6 rfl)]) rfl, trivial⟩ ?_
 intro f2 s2 W2 hB2 g2 hg2
 have fB2 := hB2.f fB1
 have z2 := hB2.below.size
 have b2_0 := hB2.b br1_0
 have b2_1 := hB2.b br1_1
 refine hK2 _ _ ?_
 have k2_4 := kt hg2 4 (hB2.is 7)
 refine wp_ret ?_
 refine leave_one (N := 12) (v := .int .i64 mo) (.inr rfl) Try.results40 rfl k2_4 ?_
 exact ⟨rfl, fB2⟩
set_option maxRecDepth 100000 in
set_option maxHeartbeats 8000000 in
theorem moist_1_2 (ps : Nat → Pa) (qs : Nat → Fu) (bp oP np cp bq oq nq cq : Nat) (tx ux cx tf uf cf pa0 pa1 pa2 fa0 : Nat) (PA0 PA1 PA2 : Pa) (FA0 : Fu) (wh : Int) (qv0 : Int) (sm mo : Int) (oo : Nat → Int) (w : World) (hP : PaR w bp oP np ps) (hQ : FuR w bq oq nq qs) (hpi : ∀ i, i < np → PaIn (ps i)) (hqi : ∀ i, i < nq → FuIn (qs i)) (np1 : 1 ≤ np) (np8 : np ≤ 8) (nq1 : 1 ≤ nq) (nq4 : nq ≤ 4) (hX : Ii w (some ⟨tx, ux, none⟩) 3 cx [(pa0 : Int), (pa1 : Int), (pa2 : Int)]) (hF : Ii w (some ⟨tf, uf, none⟩) 1 cf [(fa0 : Int)]) (hpa0 : pa0 < np) (epa0 : ps pa0 = PA0) (hpa1 : pa1 < np) (epa1 : ps pa1 = PA1) (hpa2 : pa2 < np) (epa2 : ps pa2 = PA2) (hfa0 : fa0 < nq) (efa0 : qs fa0 = FA0) (hk0 : PA0.kind = 1) (hk1 : PA1.kind = 2) (hk2 : PA2.kind = 1) (hwh : FA0.pitch = wh) (gwh : 0 ≤ wh ∧ wh ≤ 100000000) (gw1 : 0 ≤ FA0.pitch ∧ FA0.pitch ≤ 10000) (hqv0 : wh / FA0.pitch = qv0) (gqv0 : 0 ≤ qv0 ∧ qv0 ≤ 100000000) (gqd0 : 0 ≤ qv0 * FA0.draw ∧ qv0 * FA0.draw ≤ 200000000) (gpi0 : 1000 ≤ FA0.pitch ∧ FA0.pitch ≤ 10000) (gwp : 1 ≤ wh) (hsm : sumS oo (fun i => [wh, qv0 * FA0.draw, wh].getD i 0) 3 = sm) (gsm : 0 ≤ sm ∧ sm ≤ 10000000000000000) (hmo : sm / (1000 * wh) = mo) (gmo : 0 ≤ mo ∧ mo ≤ 10000000000000000) (hoo : ∀ i, i < 3 → 0 ≤ oo i ∧ oo i ≤ 1200000) (hov0 : PA0.weight * (1000 + PA0.m2) = oo 0) (hov1 : PA1.weight * (1000 + PA1.m2) = oo 1) (hov2 : PA2.weight * (1000 + PA2.m2) = oo 2) :
  Calls Try.prog 40 #[.agg #[.slice (some ⟨tx, ux, none⟩) (3) (cx), .slice (some ⟨tf, uf, none⟩) (1) (cf), .slice (some ⟨bp, oP, none⟩) (np) (cp), .slice (some ⟨bq, oq, none⟩) (nq) (cq), .int .i64 wh], .func (.func 39) #[] #[]] w (fun e w' => e = .returned (.int .i64 mo) ∧ Below w.heap.size w w') := by
 refine calls_fr Try.func40 Try.ntmps40 rfl rfl fun g hg => ?_
 have k0 : g 0 = .agg #[.slice (some ⟨tx, ux, none⟩) (3) (cx), .slice (some ⟨tf, uf, none⟩) (1) (cf), .slice (some ⟨bp, oP, none⟩) (np) (cp), .slice (some ⟨bq, oq, none⟩) (nq) (cq), .int .i64 wh] := hg 0
 have k1 : g 1 = .func (.func 39) #[] #[] := hg 1
 clear hg
 have fB0 : Below w.heap.size w w := Below.refl _ _
 refine wp_seq_k fun K1 hK1 => ?_
 refine region_dk 3 [(2, 0), (3, 1), (4, 2)] [[], [], []] (rel [bx 0 #[.slice (some ⟨tx, ux, none⟩) (3) (cx), .slice (some ⟨tf, uf, none⟩) (1) (cf), .slice (some ⟨bp, oP, none⟩) (np) (cp), .slice (some ⟨bq, oq, none⟩) (nq) (cq), .int .i64 wh] 72,
   bx 1 #[.func (.func 39) #[] #[]] 100,
   is (.int .i64 0)])
  ⟨bx_k, bx_k, is_k, trivial⟩
  ⟨fun f s W c d j k l a => opb rfl rfl (by simp [go_sem, a.e 0 k0]),
  fun f s W c d j k l a => opb rfl rfl (by simp [go_sem, a.e 1 k1]),
  fun f s W c d j k l a => opv rfl rfl (by simp [go_sem]) rfl, trivial⟩ ?_
 intro f1 s1 W1 hB1 g1 hg1
 have fB1 := hB1.f fB0
 have z1 := hB1.below.size
 obtain ⟨r1_0, br1_0⟩ := hB1.is 0
 have lr1_0 := hB1.lr 0 br1_0
 obtain ⟨r1_1, br1_1⟩ := hB1.is 1
 have lr1_1 := hB1.lr 1 br1_1
 have ne1_0_1 := hB1.nb 0 1
 refine hK1 _ _ ?_
 have k1_2 := kt hg1 2 r1_0
 have k1_3 := kt hg1 3 r1_1
 have k1_4 := kt hg1 4 (hB1.is 2)
 refine wp_seq_k fun K2 hK2 => ?_
 refine region_dk 8 [(5, 0), (6, 1), (7, 2), (8, 3), (9, 4), (10, 5), (11, 6), (4, 7)] [[], [], [0, 1], [], [3], [3, 4], [0, 1, 2, 3, 4, 5], [0, 1, 2, 3, 4, 5, 6]] (rel [is (.agg #[.slice (some ⟨tx, ux, none⟩) (3) (cx), .slice (some ⟨tf, uf, none⟩) (1) (cf), .slice (some ⟨bp, oP, none⟩) (np) (cp), .slice (some ⟨bq, oq, none⟩) (nq) (cq), .int .i64 wh]),
   is (.func (.func 63) #[] #[.pointer (some ⟨(s1 1), 0, none⟩)]),
   is (.int .i64 sm),
   is (.pointer (some ⟨(s1 0), 4, none⟩)),
   is (.int .i64 wh),
   is (.int .i64 (1000 * wh)),
   is (.int .i64 mo),
   is (.int .i64 mo)])
  ⟨is_k, is_k, is_k, is_k, is_k, is_k, is_k, is_k, trivial⟩
  ⟨fun f s W c d j k l a => opv rfl rfl (by simp [go_sem, a.e 2 k1_2, cb br1_0 c 0, cb br1_0 c 1, cb br1_0 c 2, cb br1_0 c 3, cb br1_0 c 4]) rfl,
  fun f s W c d j k l a => opv rfl rfl (by simp [go_sem, a.e 3 k1_3]) rfl,
  fun f s W c d j k l a => by have m := below_trans fB1 c; exact opDo_call rfl rfl (by simp [go_sem, a.e 5 (d 0 rfl), a.e 6 (d 1 rfl)]) (sumL_1 ps qs bp oP np cp bq oq nq cq tx ux cx tf uf cf pa0 pa1 pa2 fa0 PA0 PA1 PA2 FA0 wh qv0 W (hP.below m) (hQ.below m) hpi hqi np1 np8 nq1 nq4 (hX.below m (Nat.le_refl _)) (hF.below m (Nat.le_refl _)) hpa0 epa0 hpa1 epa1 hpa2 epa2 hfa0 efa0 hk0 hk1 hk2 hwh gwh gw1 hqv0 gqv0 gqd0 gpi0 63 #[.pointer (some ⟨(s1 1), 0, none⟩)] (fun xs w => by simp [go_sem]) oo hoo (fun W' hb' => by rw [show (#[.agg #[.int .i64 PA0.kind, .int .i64 PA0.weight, .int .i64 PA0.t1, .int .i64 PA0.t2, .int .i64 PA0.m1, .int .i64 PA0.m2, .int .i64 PA0.price, .int .i64 PA0.strong]] ++ #[.pointer (some ⟨(s1 1), 0, none⟩)] : Array Value) = #[.agg #[.int .i64 PA0.kind, .int .i64 PA0.weight, .int .i64 PA0.t1, .int .i64 PA0.t2, .int .i64 PA0.m1, .int .i64 PA0.m2, .int .i64 PA0.price, .int .i64 PA0.strong], .pointer (some ⟨(s1 1), 0, none⟩)] from by simp, ← hov0]; exact moistP_2 PA0 (epa0 ▸ hpi pa0 hpa0) (s1 1) W' (blk_below (blk_below br1_1 c) hb') (by rw [hov0]; exact hoo 0 (by decide))) (fun W' hb' => by rw [show (#[.agg #[.int .i64 PA1.kind, .int .i64 PA1.weight, .int .i64 PA1.t1, .int .i64 PA1.t2, .int .i64 PA1.m1, .int .i64 PA1.m2, .int .i64 PA1.price, .int .i64 PA1.strong]] ++ #[.pointer (some ⟨(s1 1), 0, none⟩)] : Array Value) = #[.agg #[.int .i64 PA1.kind, .int .i64 PA1.weight, .int .i64 PA1.t1, .int .i64 PA1.t2, .int .i64 PA1.m1, .int .i64 PA1.m2, .int .i64 PA1.price, .int .i64 PA1.strong], .pointer (some ⟨(s1 1), 0, none⟩)] from by simp, ← hov1]; exact moistP_2 PA1 (epa1 ▸ hpi pa1 hpa1) (s1 1) W' (blk_below (blk_below br1_1 c) hb') (by rw [hov1]; exact hoo 1 (by decide))) (fun W' hb' => by rw [show (#[.agg #[.int .i64 PA2.kind, .int .i64 PA2.weight, .int .i64 PA2.t1, .int .i64 PA2.t2, .int .i64 PA2.m1, .int .i64 PA2.m2, .int .i64 PA2.price, .int .i64 PA2.strong]] ++ #[.pointer (some ⟨(s1 1), 0, none⟩)] : Array Value) = #[.agg #[.int .i64 PA2.kind, .int .i64 PA2.weight, .int .i64 PA2.t1, .int .i64 PA2.t2, .int .i64 PA2.m1, .int .i64 PA2.m2, .int .i64 PA2.price, .int .i64 PA2.strong], .pointer (some ⟨(s1 1), 0, none⟩)] from by simp, ← hov2]; exact moistP_2 PA2 (epa2 ▸ hpi pa2 hpa2) (s1 1) W' (blk_below (blk_below br1_1 c) hb') (by rw [hov2]; exact hoo 2 (by decide)))) ((fun e W' h => by have h1 := h.1; rw [hsm] at h1; exact ⟨_, h1, h.2, rfl⟩)),
  fun f s W c d j k l a => opv rfl rfl (by simp [go_sem, a.e 2 k1_2]) rfl,
  fun f s W c d j k l a => opv rfl rfl (by simp [go_sem, a.e 8 (d 3 rfl), cb br1_0 c 4]) rfl,
  fun f s W c d j k l a => opv rfl rfl (by simp [go_sem, a.e 9 (d 4 rfl), IntWalk.i64_in (1000 * wh) (by omega)]) rfl,
  fun f s W c d j k l a => by have qu_ : (sm).tdiv (1000 * wh) = mo := (Int.tdiv_eq_ediv_of_nonneg (by omega)).trans hmo; have qw_ := IntWalk.i64_in (mo) (by omega); have qz_ : ¬ (1000 * wh) = 0 := (by omega); exact opv rfl rfl (by simp [go_sem, a.e 7 (d 2 rfl), a.e 10 (d 5 rfl), qu_, qw_, qz_]) rfl,
  fun f s W c d j k l a => opv rfl rfl (by simp [go_sem, a.e 11 (d 6 rfl)]) rfl, trivial⟩ ?_
 intro f2 s2 W2 hB2 g2 hg2
 have fB2 := hB2.f fB1
 have z2 := hB2.below.size
 have b2_0 := hB2.b br1_0
 have b2_1 := hB2.b br1_1
 refine hK2 _ _ ?_
 have k2_4 := kt hg2 4 (hB2.is 7)
 refine wp_ret ?_
 refine leave_one (N := 12) (v := .int .i64 mo) (.inr rfl) Try.results40 rfl k2_4 ?_
 exact ⟨rfl, fB2⟩
end Go.Proofs.Ytiocklgakklkpaa
namespace Go.Proofs.Ytiocklgakklkpaa
open Go.RowKit
structure LeY (b : Nat) (T : TypeId) (F : Array Value) (A C : World) : Prop where
  keep : KeepX b A C
  box : ∀ cs, A.heap[b]? = some (.cells cs T (0, 0)) → C.heap[b]? = some (.cells cs T (0, 0)) ∨ C.heap[b]? = some (.cells F T (0, 0))
section
variable {b : Nat} {T : TypeId} {F : Array Value}
theorem LeY.refl (a : World) : LeY b T F a a := ⟨KeepX.refl _ _, fun _ h => .inl h⟩
theorem LeY.trans (a c d : World) (h : LeY b T F a c) (k : LeY b T F c d) : LeY b T F a d :=
  ⟨h.keep.trans k.keep, fun cs hx => by
    rcases h.box cs hx with e | e
    · exact k.box cs e
    · rcases k.box F e with e | e <;> exact .inr e⟩
theorem LeY.of_below (a c : World) (h : Below a.heap.size a c) : LeY b T F a c := ⟨KeepX.of_below h, fun _ hx => .inl (blk_below hx h)⟩
theorem LeY.drew (a : World) : LeY b T F a a.drew := LeY.of_below _ _ (Below.refl _ _).drew
def stoY (b : Nat) (T : TypeId) (F : Array Value) : Rl := fun _ _ W => W.heap[b]? = some (.cells F T (0, 0))
theorem stoY_k {ds : List (List Nat)} {i : Nat} : KeepsL (LeY b T F) ds i (stoY b T F) := ⟨fun _ _ _ _ hb h => by rcases hb.box F h with e | e <;> exact e, fun _ _ _ _ _ h => h⟩
end
theorem stoY_do {P : Program} {ops : Array Oper} {Q : Exit → Act → World → Prop} {b : Nat} {T : TypeId} {F cs0 : Array Value} {i : Nat} {a : Act} {W0 W : World} {s : Nat → Nat} {ty tt : TypeId} {x y : Operand} {pos : String} {af : Array Edge} {v : Value}
    (ho : ops[i]? = some { dst := none, op := .store ty x y, type := tt, pos := pos, after := af, guard := none }) (hT : LeY b T F W0 W) (h0 : W0.heap[b]? = some (.cells cs0 T (0, 0))) (hx : a.eval x = .pointer (some ⟨b, 0, none⟩)) (hy : a.eval y = v) (hf : v.cells = F) (hn : cs0.size = F.size) (hi : (P.info? ty).map (·.size) = some F.size) (h1 : F.toList.all (·.oneCell') = true) :
    OpDoL (LeY b T F) P ops Q i a W (fun v W' => stoY b T F v (upd s i W.heap.size) W') := by
  obtain ⟨cs, hb, hsz⟩ : ∃ cs : Array Value, W.heap[b]? = some (.cells cs T (0, 0)) ∧ cs.size = F.size := by
    rcases hT.box cs0 h0 with e | e
    · exact ⟨_, e, hn⟩
    · exact ⟨_, e, rfl⟩
  subst hf
  have e : (cs.toList.take 0 ++ v.cells.toList ++ cs.toList.drop (0 + v.cells.size)).toArray = v.cells := by
    have : cs.toList.drop (0 + v.cells.size) = [] := List.drop_eq_nil_of_le (by simp; omega)
    rw [this]; simp
  have hr := run_seg (P := P) (a := a) (dst := none) (ty := ty) (tt := tt) (x := x) (y := y) (pos := pos) (af := af) (gd := none) (W' := W.setRow b v.cells) rfl hx hy hb hi (decide_eq_true (by omega)) h1 e
  have hnew := setRow_heap W b cs v.cells T (0, 0) hb
  exact opDoL_skip ho ⟨rfl, rfl⟩ hr ⟨⟨rfl, rfl, rfl, by rw [setRow_size]; exact Nat.le_refl _, fun k o hk hx => by rw [setRow_other W b k v.cells hk]; exact hx⟩, fun _ _ => .inr hnew⟩ hnew
end Go.Proofs.Ytiocklgakklkpaa
namespace Go.Proofs.Ytiocklgakklkpaa
open Go.RowKit
set_option maxRecDepth 100000 in
set_option maxHeartbeats 8000000 in
theorem measure_1 (ps : Nat → Pa) (qs : Nat → Fu) (bp oP np cp bq oq nq cq : Nat) (tx ux cx tf uf cf pa0 pa1 pa2 fa0 : Nat) (PA0 PA1 PA2 : Pa) (FA0 : Fu) (wh : Int) (qv0 : Int) (sa sb ma mb ka kb : Int) (oa ob : Nat → Int) (w : World) (hP : PaR w bp oP np ps) (hQ : FuR w bq oq nq qs) (hpi : ∀ i, i < np → PaIn (ps i)) (hqi : ∀ i, i < nq → FuIn (qs i)) (np1 : 1 ≤ np) (np8 : np ≤ 8) (nq1 : 1 ≤ nq) (nq4 : nq ≤ 4) (hX : Ii w (some ⟨tx, ux, none⟩) 3 cx [(pa0 : Int), (pa1 : Int), (pa2 : Int)]) (hF : Ii w (some ⟨tf, uf, none⟩) 1 cf [(fa0 : Int)]) (hpa0 : pa0 < np) (epa0 : ps pa0 = PA0) (hpa1 : pa1 < np) (epa1 : ps pa1 = PA1) (hpa2 : pa2 < np) (epa2 : ps pa2 = PA2) (hfa0 : fa0 < nq) (efa0 : qs fa0 = FA0) (hk0 : PA0.kind = 1) (hk1 : PA1.kind = 2) (hk2 : PA2.kind = 1) (hwh : FA0.pitch = wh) (gwh : 0 ≤ wh ∧ wh ≤ 100000000) (gw1 : 0 ≤ FA0.pitch ∧ FA0.pitch ≤ 10000) (hqv0 : wh / FA0.pitch = qv0) (gqv0 : 0 ≤ qv0 ∧ qv0 ≤ 100000000) (gqd0 : 0 ≤ qv0 * FA0.draw ∧ qv0 * FA0.draw ≤ 200000000) (gpi0 : 1000 ≤ FA0.pitch ∧ FA0.pitch ≤ 10000) (gwp : 1 ≤ wh) (hsa : sumS oa (fun i => [wh, qv0 * FA0.draw, wh].getD i 0) 3 = sa) (gsa : 0 ≤ sa ∧ sa ≤ 10000000000000000) (hma : sa / (1000 * wh) = ma) (gma : 0 ≤ ma ∧ ma ≤ 10000000000000000) (hoa : ∀ i, i < 3 → 0 ≤ oa i ∧ oa i ≤ 1200000) (hka : (PA0.t1 + PA2.t1) + FA0.h1 = ka) (hva0 : PA0.weight * (1000 + PA0.m1) = oa 0) (hva1 : PA1.weight * (1000 + PA1.m1) = oa 1) (hva2 : PA2.weight * (1000 + PA2.m1) = oa 2) (hsb : sumS ob (fun i => [wh, qv0 * FA0.draw, wh].getD i 0) 3 = sb) (gsb : 0 ≤ sb ∧ sb ≤ 10000000000000000) (hmb : sb / (1000 * wh) = mb) (gmb : 0 ≤ mb ∧ mb ≤ 10000000000000000) (hob : ∀ i, i < 3 → 0 ≤ ob i ∧ ob i ≤ 1200000) (hkb : (PA0.t2 + PA2.t2) + FA0.h2 = kb) (hvb0 : PA0.weight * (1000 + PA0.m2) = ob 0) (hvb1 : PA1.weight * (1000 + PA1.m2) = ob 1) (hvb2 : PA2.weight * (1000 + PA2.m2) = ob 2) :
  Calls Try.prog 24 #[.agg #[.slice (some ⟨tx, ux, none⟩) (3) (cx), .slice (some ⟨tf, uf, none⟩) (1) (cf), .slice (some ⟨bp, oP, none⟩) (np) (cp), .slice (some ⟨bq, oq, none⟩) (nq) (cq), .int .i64 wh]] w (fun e w' => e = .returned (.tuple #[.agg #[.int .i64 ma, .int .i64 mb], .agg #[.int .i64 ka, .int .i64 kb]]) ∧ Below w.heap.size w w') := by
 refine calls_fr Try.func24 Try.ntmps24 rfl rfl fun g hg => ?_
 have k0 : g 0 = .agg #[.slice (some ⟨tx, ux, none⟩) (3) (cx), .slice (some ⟨tf, uf, none⟩) (1) (cf), .slice (some ⟨bp, oP, none⟩) (np) (cp), .slice (some ⟨bq, oq, none⟩) (nq) (cq), .int .i64 wh] := hg 0
 clear hg
 have fB0 : Below w.heap.size w w := Below.refl _ _
 refine wp_seq_k fun K1 hK1 => ?_
 refine region_dk 3 [(1, 0), (2, 1), (3, 2)] [[], [], []] (rel [bx 0 #[.slice (some ⟨tx, ux, none⟩) (3) (cx), .slice (some ⟨tf, uf, none⟩) (1) (cf), .slice (some ⟨bp, oP, none⟩) (np) (cp), .slice (some ⟨bq, oq, none⟩) (nq) (cq), .int .i64 wh] 72,
   bx 1 #[.int .i64 0, .int .i64 0] 40,
   bx 2 #[.int .i64 0, .int .i64 0] 40])
  ⟨bx_k, bx_k, bx_k, trivial⟩
  ⟨fun f s W c d j k m a => opb rfl rfl (by simp [go_sem, a.e 0 k0]),
  fun f s W c d j k m a => opb rfl rfl (by simp [go_sem]),
  fun f s W c d j k m a => opb rfl rfl (by simp [go_sem]), trivial⟩ ?_
 intro f1 s1 W1 hB1 g1 hg1
 have fB1 := hB1.f fB0
 have z1 := hB1.below.size
 obtain ⟨r1_0, br1_0⟩ := hB1.is 0
 have lr1_0 := hB1.lr 0 br1_0
 obtain ⟨r1_1, br1_1⟩ := hB1.is 1
 have lr1_1 := hB1.lr 1 br1_1
 obtain ⟨r1_2, br1_2⟩ := hB1.is 2
 have lr1_2 := hB1.lr 2 br1_2
 have ne1_0_1 := hB1.nb 0 1
 have ne1_0_2 := hB1.nb 0 2
 have ne1_1_2 := hB1.nb 1 2
 refine hK1 _ _ ?_
 have k1_1 := kt hg1 1 r1_0
 have k1_2 := kt hg1 2 r1_1
 have k1_3 := kt hg1 3 r1_2
 refine wp_seq_k fun K2 hK2 => ?_
 refine region_dk 2 [(4, 0), (5, 1)] [[], [0]] (rel [is (.func (.func 38) #[] #[]),
   is (.func (.func 39) #[] #[])])
  ⟨is_k, is_k, trivial⟩
  ⟨fun f s W c d j k m a => opv rfl rfl (by simp [go_sem]) rfl,
  fun f s W c d j k m a => opv rfl rfl (by simp [go_sem]) rfl, trivial⟩ ?_
 intro f2 s2 W2 hB2 g2 hg2
 have fB2 := hB2.f fB1
 have z2 := hB2.below.size
 have b2_0 := hB2.b br1_0
 have b2_1 := hB2.b br1_1
 have b2_2 := hB2.b br1_2
 refine hK2 _ _ ?_
 have k2_1 := kt hg2 1 k1_1
 have k2_2 := kt hg2 2 k1_2
 have k2_3 := kt hg2 3 k1_3
 have k2_4 := kt hg2 4 (hB2.is 0)
 have k2_5 := kt hg2 5 (hB2.is 1)
 refine wp_seq_k fun K3 hK3 => ?_
 refine region_doL (LeY (s1 1) 40 #[.int .i64 ma, .int .i64 mb]) LeY.refl LeY.drew LeY.trans (fun _ _ h => h.keep.size) 15 [(6, 0), (7, 1), (8, 2), (9, 3), (10, 4), (11, 5), (12, 6), (13, 7), (14, 8), (15, 9), (16, 10), (17, 11), (18, 12), (19, 13)] [[], [], [0, 1], [], [], [0, 1, 2, 3, 4], [0, 1, 2, 3, 4, 5], [], [], [0, 1, 2, 3, 4, 5, 7, 8], [], [], [0, 1, 2, 3, 4, 5, 7, 8, 9, 10, 11], [0, 1, 2, 3, 4, 5, 7, 8, 9, 10, 11, 12], [0, 1, 2, 3, 4, 5, 6, 7, 8, 9, 10, 11, 12], [0, 1, 2, 3, 4, 5, 6, 7, 8, 9, 10, 11, 12, 13, 14]] (rel [is (.agg #[.slice (some ⟨tx, ux, none⟩) (3) (cx), .slice (some ⟨tf, uf, none⟩) (1) (cf), .slice (some ⟨bp, oP, none⟩) (np) (cp), .slice (some ⟨bq, oq, none⟩) (nq) (cq), .int .i64 wh]),
   is (.func (.func 38) #[] #[]),
   is (.int .i64 ma),
   is (.agg #[.slice (some ⟨tx, ux, none⟩) (3) (cx), .slice (some ⟨tf, uf, none⟩) (1) (cf), .slice (some ⟨bp, oP, none⟩) (np) (cp), .slice (some ⟨bq, oq, none⟩) (nq) (cq), .int .i64 wh]),
   is (.func (.func 39) #[] #[]),
   is (.int .i64 mb),
   is (.agg #[.int .i64 ma, .int .i64 mb]),
   is (.agg #[.slice (some ⟨tx, ux, none⟩) (3) (cx), .slice (some ⟨tf, uf, none⟩) (1) (cf), .slice (some ⟨bp, oP, none⟩) (np) (cp), .slice (some ⟨bq, oq, none⟩) (nq) (cq), .int .i64 wh]),
   is (.func (.func 38) #[] #[]),
   is (.int .i64 ka),
   is (.agg #[.slice (some ⟨tx, ux, none⟩) (3) (cx), .slice (some ⟨tf, uf, none⟩) (1) (cf), .slice (some ⟨bp, oP, none⟩) (np) (cp), .slice (some ⟨bq, oq, none⟩) (nq) (cq), .int .i64 wh]),
   is (.func (.func 39) #[] #[]),
   is (.int .i64 kb),
   is (.agg #[.int .i64 ka, .int .i64 kb]),
   stoY (s1 1) 40 #[.int .i64 ma, .int .i64 mb]]) (by kernel_rfl) (by kernel_rfl) (by kernel_rfl) (by kernel_rfl)
  ⟨is_kl, is_kl, is_kl, is_kl, is_kl, is_kl, is_kl, is_kl, is_kl, is_kl, is_kl, is_kl, is_kl, is_kl, stoY_k, trivial⟩
  ⟨fun f s W hT d j k m a => OpDo.l LeY.of_below (opl rfl rfl rfl (a.v 1 k2_1) (hT.keep.block _ _ (by omega) b2_0) Try.underlying72 rfl (by kernel_rfl) rfl),
  fun f s W hT d j k m a => OpDo.l LeY.of_below (opv rfl rfl (by simp [go_sem, a.e 4 k2_4]) rfl),
  fun f s W hT d j k m a => OpDo.l LeY.of_below (by have n := Below.trans fB2 (hT.keep.below (by omega) (fB2).size); exact opc rfl rfl (by simp [go_sem, a.e 6 (d 0 rfl), a.e 7 (d 1 rfl)]) (moist_1_1 ps qs bp oP np cp bq oq nq cq tx ux cx tf uf cf pa0 pa1 pa2 fa0 PA0 PA1 PA2 FA0 wh qv0 sa ma oa W (hP.below n) (hQ.below n) hpi hqi np1 np8 nq1 nq4 (hX.below n (Nat.le_refl _)) (hF.below n (Nat.le_refl _)) hpa0 epa0 hpa1 epa1 hpa2 epa2 hfa0 efa0 hk0 hk1 hk2 hwh gwh gw1 hqv0 gqv0 gqd0 gpi0 gwp hsa gsa hma gma hoa hva0 hva1 hva2)),
  fun f s W hT d j k m a => OpDo.l LeY.of_below (opl rfl rfl rfl (a.v 1 k2_1) (hT.keep.block _ _ (by omega) b2_0) Try.underlying72 rfl (by kernel_rfl) rfl),
  fun f s W hT d j k m a => OpDo.l LeY.of_below (opv rfl rfl (by simp [go_sem, a.e 5 k2_5]) rfl),
  fun f s W hT d j k m a => OpDo.l LeY.of_below (by have n := Below.trans fB2 (hT.keep.below (by omega) (fB2).size); exact opc rfl rfl (by simp [go_sem, a.e 9 (d 3 rfl), a.e 10 (d 4 rfl)]) (moist_1_2 ps qs bp oP np cp bq oq nq cq tx ux cx tf uf cf pa0 pa1 pa2 fa0 PA0 PA1 PA2 FA0 wh qv0 sb mb ob W (hP.below n) (hQ.below n) hpi hqi np1 np8 nq1 nq4 (hX.below n (Nat.le_refl _)) (hF.below n (Nat.le_refl _)) hpa0 epa0 hpa1 epa1 hpa2 epa2 hfa0 efa0 hk0 hk1 hk2 hwh gwh gw1 hqv0 gqv0 gqd0 gpi0 gwp hsb gsb hmb gmb hob hvb0 hvb1 hvb2)),
  fun f s W hT d j k m a => OpDo.l LeY.of_below (opv rfl rfl (by simp [go_sem, a.e 8 (d 2 rfl), a.e 11 (d 5 rfl)]) rfl),
  fun f s W hT d j k m a => OpDo.l LeY.of_below (opl rfl rfl rfl (a.v 1 k2_1) (hT.keep.block _ _ (by omega) b2_0) Try.underlying72 rfl (by kernel_rfl) rfl),
  fun f s W hT d j k m a => OpDo.l LeY.of_below (opv rfl rfl (by simp [go_sem, a.e 4 k2_4]) rfl),
  fun f s W hT d j k m a => OpDo.l LeY.of_below (by have n := Below.trans fB2 (hT.keep.below (by omega) (fB2).size); exact opDo_call rfl rfl (by simp [go_sem, a.e 13 (d 7 rfl), a.e 14 (d 8 rfl)]) (caliper_1_1 ps qs bp oP np cp bq oq nq cq tx ux cx tf uf cf pa0 pa1 pa2 fa0 PA0 PA1 PA2 FA0 wh W (hP.below n) (hQ.below n) hpi hqi np1 np8 nq1 nq4 (hX.below n (Nat.le_refl _)) (hF.below n (Nat.le_refl _)) hpa0 epa0 hpa1 epa1 hpa2 epa2 hfa0 efa0 hk0 hk1 hk2 hwh gwh gw1) ((fun e W' h => by have h1 := h.1; rw [hka] at h1; exact ⟨_, h1, h.2, rfl⟩))),
  fun f s W hT d j k m a => OpDo.l LeY.of_below (opl rfl rfl rfl (a.v 1 k2_1) (hT.keep.block _ _ (by omega) b2_0) Try.underlying72 rfl (by kernel_rfl) rfl),
  fun f s W hT d j k m a => OpDo.l LeY.of_below (opv rfl rfl (by simp [go_sem, a.e 5 k2_5]) rfl),
  fun f s W hT d j k m a => OpDo.l LeY.of_below (by have n := Below.trans fB2 (hT.keep.below (by omega) (fB2).size); exact opDo_call rfl rfl (by simp [go_sem, a.e 16 (d 10 rfl), a.e 17 (d 11 rfl)]) (caliper_1_2 ps qs bp oP np cp bq oq nq cq tx ux cx tf uf cf pa0 pa1 pa2 fa0 PA0 PA1 PA2 FA0 wh W (hP.below n) (hQ.below n) hpi hqi np1 np8 nq1 nq4 (hX.below n (Nat.le_refl _)) (hF.below n (Nat.le_refl _)) hpa0 epa0 hpa1 epa1 hpa2 epa2 hfa0 efa0 hk0 hk1 hk2 hwh gwh gw1) ((fun e W' h => by have h1 := h.1; rw [hkb] at h1; exact ⟨_, h1, h.2, rfl⟩))),
  fun f s W hT d j k m a => OpDo.l LeY.of_below (opv rfl rfl (by simp [go_sem, a.e 15 (d 9 rfl), a.e 18 (d 12 rfl)]) rfl),
  fun f s W hT d j k m a => stoY_do (s := s) rfl hT b2_1 (a.v 2 k2_2) (a.v 12 (d 6 rfl)) rfl rfl (by rfl) (by rfl), trivial⟩ ?_
 intro f3 s3 W3 hB3
 have fB3 : Below w.heap.size w W3 := Below.trans fB2 (hB3.le.keep.below (by omega) (fB2).size)
 have z3 : W2.heap.size ≤ W3.heap.size := hB3.le.keep.size
 have b3_0 := hB3.le.keep.block _ _ (by omega) b2_0
 have b3_1 : W3.heap[(s1 1)]? = some (.cells #[.int .i64 ma, .int .i64 mb] 40 (0, 0)) := hB3.is 14
 have b3_2 := hB3.le.keep.block _ _ (by omega) b2_2
 generalize hg3 : ov [(6, 0), (7, 1), (8, 2), (9, 3), (10, 4), (11, 5), (12, 6), (13, 7), (14, 8), (15, 9), (16, 10), (17, 11), (18, 12), (19, 13)] f3 g2 = g3
 have k3_2 := kt hg3 2 k2_2
 have k3_3 := kt hg3 3 k2_3
 have k3_19 := kt hg3 19 (hB3.is 13)
 obtain ⟨W4, hW4⟩ : ∃ W', W' = W3.setRow (s1 2) #[.int .i64 ka, .int .i64 kb] := ⟨_, rfl⟩
 refine tail_skip (o := _) rfl ⟨rfl, rfl⟩ (run_seg hW4 (fr_ev k3_3) (fr_ev k3_19) b3_2 rfl rfl rfl rfl) ?_
 obtain ⟨fB4, nb4, ot4, z4⟩ := seg_facts hW4 fB3 b3_2 (by omega)
 clear hW4
 have b4_0 := ot4 _ _ (by omega) b3_0
 have b4_1 := ot4 _ _ (by omega) b3_1
 refine wpOps_end ?_
 refine hK3 _ _ ?_
 refine wp_ret ?_
 refine leave_gen (v := .tuple #[.agg #[.int .i64 ma, .int .i64 mb], .agg #[.int .i64 ka, .int .i64 kb]]) (.inr rfl) (by simp [results, Try.results24, go_sem, frv 20 k3_2, cl b4_1 0, cl b4_1 1, frv 20 k3_3, cl nb4 0, cl nb4 1]) ?_
 exact ⟨rfl, fB4⟩
set_option maxRecDepth 100000 in
set_option maxHeartbeats 8000000 in
theorem Measure_1 (ps : Nat → Pa) (qs : Nat → Fu) (bp oP np cp bq oq nq cq : Nat) (tx ux cx tf uf cf pa0 pa1 pa2 fa0 : Nat) (PA0 PA1 PA2 : Pa) (FA0 : Fu) (wh : Int) (qv0 : Int) (sa sb ma mb ka kb : Int) (oa ob : Nat → Int) (w : World) (hP : PaR w bp oP np ps) (hQ : FuR w bq oq nq qs) (hpi : ∀ i, i < np → PaIn (ps i)) (hqi : ∀ i, i < nq → FuIn (qs i)) (np1 : 1 ≤ np) (np8 : np ≤ 8) (nq1 : 1 ≤ nq) (nq4 : nq ≤ 4) (hX : Ii w (some ⟨tx, ux, none⟩) 3 cx [(pa0 : Int), (pa1 : Int), (pa2 : Int)]) (hF : Ii w (some ⟨tf, uf, none⟩) 1 cf [(fa0 : Int)]) (hpa0 : pa0 < np) (epa0 : ps pa0 = PA0) (hpa1 : pa1 < np) (epa1 : ps pa1 = PA1) (hpa2 : pa2 < np) (epa2 : ps pa2 = PA2) (hfa0 : fa0 < nq) (efa0 : qs fa0 = FA0) (hk0 : PA0.kind = 1) (hk1 : PA1.kind = 2) (hk2 : PA2.kind = 1) (hwh : FA0.pitch = wh) (gwh : 0 ≤ wh ∧ wh ≤ 100000000) (gw1 : 0 ≤ FA0.pitch ∧ FA0.pitch ≤ 10000) (hqv0 : wh / FA0.pitch = qv0) (gqv0 : 0 ≤ qv0 ∧ qv0 ≤ 100000000) (gqd0 : 0 ≤ qv0 * FA0.draw ∧ qv0 * FA0.draw ≤ 200000000) (gpi0 : 1000 ≤ FA0.pitch ∧ FA0.pitch ≤ 10000) (gwp : 1 ≤ wh) (hsa : sumS oa (fun i => [wh, qv0 * FA0.draw, wh].getD i 0) 3 = sa) (gsa : 0 ≤ sa ∧ sa ≤ 10000000000000000) (hma : sa / (1000 * wh) = ma) (gma : 0 ≤ ma ∧ ma ≤ 10000000000000000) (hoa : ∀ i, i < 3 → 0 ≤ oa i ∧ oa i ≤ 1200000) (hka : (PA0.t1 + PA2.t1) + FA0.h1 = ka) (hva0 : PA0.weight * (1000 + PA0.m1) = oa 0) (hva1 : PA1.weight * (1000 + PA1.m1) = oa 1) (hva2 : PA2.weight * (1000 + PA2.m1) = oa 2) (hsb : sumS ob (fun i => [wh, qv0 * FA0.draw, wh].getD i 0) 3 = sb) (gsb : 0 ≤ sb ∧ sb ≤ 10000000000000000) (hmb : sb / (1000 * wh) = mb) (gmb : 0 ≤ mb ∧ mb ≤ 10000000000000000) (hob : ∀ i, i < 3 → 0 ≤ ob i ∧ ob i ≤ 1200000) (hkb : (PA0.t2 + PA2.t2) + FA0.h2 = kb) (hvb0 : PA0.weight * (1000 + PA0.m2) = ob 0) (hvb1 : PA1.weight * (1000 + PA1.m2) = ob 1) (hvb2 : PA2.weight * (1000 + PA2.m2) = ob 2) :
  Calls Try.prog 8 #[.agg #[.slice (some ⟨bp, oP, none⟩) (np) (cp), .slice (some ⟨bq, oq, none⟩) (nq) (cq)], .agg #[.slice (some ⟨tx, ux, none⟩) (3) (cx), .slice (some ⟨tf, uf, none⟩) (1) (cf)]] w (fun e w' => e = .returned (.tuple #[.agg #[.int .i64 ma, .int .i64 mb], .agg #[.int .i64 ka, .int .i64 kb], .int .i64 0]) ∧ Below w.heap.size w w') := by
 refine calls_fr Try.func8 Try.ntmps8 rfl rfl fun g hg => ?_
 have k0 : g 0 = .agg #[.slice (some ⟨bp, oP, none⟩) (np) (cp), .slice (some ⟨bq, oq, none⟩) (nq) (cq)] := hg 0
 have k1 : g 1 = .agg #[.slice (some ⟨tx, ux, none⟩) (3) (cx), .slice (some ⟨tf, uf, none⟩) (1) (cf)] := hg 1
 clear hg
 have fB0 : Below w.heap.size w w := Below.refl _ _
 refine wp_seq_k fun K1 hK1 => ?_
 refine region_dk 5 [(2, 0), (3, 1), (4, 2), (5, 3), (6, 4)] [[], [], [], [], []] (rel [bx 0 #[.slice (some ⟨bp, oP, none⟩) (np) (cp), .slice (some ⟨bq, oq, none⟩) (nq) (cq)] 33,
   bx 1 #[.slice (some ⟨tx, ux, none⟩) (3) (cx), .slice (some ⟨tf, uf, none⟩) (1) (cf)] 46,
   bx 2 #[.int .i64 0, .int .i64 0] 40,
   bx 3 #[.int .i64 0, .int .i64 0] 40,
   is (.int .i64 0)])
  ⟨bx_k, bx_k, bx_k, bx_k, is_k, trivial⟩
  ⟨fun f s W c d h j k a => opb rfl rfl (by simp [go_sem, a.e 0 k0]),
  fun f s W c d h j k a => opb rfl rfl (by simp [go_sem, a.e 1 k1]),
  fun f s W c d h j k a => opb rfl rfl (by simp [go_sem]),
  fun f s W c d h j k a => opb rfl rfl (by simp [go_sem]),
  fun f s W c d h j k a => opv rfl rfl (by simp [go_sem]) rfl, trivial⟩ ?_
 intro f1 s1 W1 hB1 g1 hg1
 have fB1 := hB1.f fB0
 have z1 := hB1.below.size
 obtain ⟨r1_0, br1_0⟩ := hB1.is 0
 have lr1_0 := hB1.lr 0 br1_0
 obtain ⟨r1_1, br1_1⟩ := hB1.is 1
 have lr1_1 := hB1.lr 1 br1_1
 obtain ⟨r1_2, br1_2⟩ := hB1.is 2
 have lr1_2 := hB1.lr 2 br1_2
 obtain ⟨r1_3, br1_3⟩ := hB1.is 3
 have lr1_3 := hB1.lr 3 br1_3
 have ne1_0_1 := hB1.nb 0 1
 have ne1_0_2 := hB1.nb 0 2
 have ne1_1_2 := hB1.nb 1 2
 have ne1_0_3 := hB1.nb 0 3
 have ne1_1_3 := hB1.nb 1 3
 have ne1_2_3 := hB1.nb 2 3
 refine hK1 _ _ ?_
 have k1_2 := kt hg1 2 r1_0
 have k1_3 := kt hg1 3 r1_1
 have k1_4 := kt hg1 4 r1_2
 have k1_5 := kt hg1 5 r1_3
 have k1_6 := kt hg1 6 (hB1.is 4)
 refine wp_seq_k fun K2 hK2 => ?_
 refine region_dk 7 [(9, 0), (10, 1), (11, 2), (8, 3), (12, 4), (13, 5), (7, 6), (6, 8)] [[], [], [0, 1], [0, 1, 2], [0, 1, 2, 3], [0, 1, 2, 3], [], [0, 1, 2, 3, 4, 6], [0, 1, 2, 3, 4, 5, 6, 7]] (rel [is (.agg #[.slice (some ⟨bp, oP, none⟩) (np) (cp), .slice (some ⟨bq, oq, none⟩) (nq) (cq)]),
   is (.agg #[.slice (some ⟨tx, ux, none⟩) (3) (cx), .slice (some ⟨tf, uf, none⟩) (1) (cf)]),
   is (.tuple #[.agg #[.slice (some ⟨tx, ux, none⟩) (3) (cx), .slice (some ⟨tf, uf, none⟩) (1) (cf), .slice (some ⟨bp, oP, none⟩) (np) (cp), .slice (some ⟨bq, oq, none⟩) (nq) (cq), .int .i64 wh], .int .i64 0]),
   is (.tuple #[.agg #[.slice (some ⟨tx, ux, none⟩) (3) (cx), .slice (some ⟨tf, uf, none⟩) (1) (cf), .slice (some ⟨bp, oP, none⟩) (np) (cp), .slice (some ⟨bq, oq, none⟩) (nq) (cq), .int .i64 wh], .int .i64 0]),
   is (.agg #[.slice (some ⟨tx, ux, none⟩) (3) (cx), .slice (some ⟨tf, uf, none⟩) (1) (cf), .slice (some ⟨bp, oP, none⟩) (np) (cp), .slice (some ⟨bq, oq, none⟩) (nq) (cq), .int .i64 wh]),
   is (.int .i64 0),
   bx 6 #[.slice (none) (0) (0), .slice (none) (0) (0), .slice (none) (0) (0), .slice (none) (0) (0), .int .i64 0] 72])
  ⟨is_k, is_k, is_k, is_k, is_k, is_k, bx_k, trivial⟩
  ⟨fun f s W c d h j k a => opv rfl rfl (by simp [go_sem, a.e 2 k1_2, cb br1_0 c 0, cb br1_0 c 1]) rfl,
  fun f s W c d h j k a => opv rfl rfl (by simp [go_sem, a.e 3 k1_3, cb br1_1 c 0, cb br1_1 c 1]) rfl,
  fun f s W c d h j k a => by have l := below_trans fB1 c; exact opc rfl rfl (by simp [go_sem, a.e 9 (d 0 rfl), a.e 10 (d 1 rfl)]) (newSheet_1 ps qs bp oP np cp bq oq nq cq tx ux cx tf uf cf pa0 pa1 pa2 fa0 PA0 PA1 PA2 FA0 wh W (hP.below l) (hQ.below l) hpi hqi np1 np8 nq1 nq4 (hX.below l (Nat.le_refl _)) (hF.below l (Nat.le_refl _)) hpa0 epa0 hpa1 epa1 hpa2 epa2 hfa0 efa0 hk0 hk1 hk2 hwh gwh gw1),
  fun f s W c d h j k a => opv rfl rfl (by simp [go_sem, a.e 11 (d 2 rfl)]) rfl,
  fun f s W c d h j k a => opv rfl rfl (by simp [go_sem, a.e 8 (d 3 rfl)]) rfl,
  fun f s W c d h j k a => opv rfl rfl (by simp [go_sem, a.e 8 (d 3 rfl)]) rfl,
  fun f s W c d h j k a => opb rfl rfl (by simp [go_sem]), trivial⟩ ?_
 intro f2 s2 W2 hB2 g2 hg2
 have fB2 := hB2.f fB1
 have z2 := hB2.below.size
 have b2_0 := hB2.b br1_0
 have b2_1 := hB2.b br1_1
 have b2_2 := hB2.b br1_2
 have b2_3 := hB2.b br1_3
 obtain ⟨r2_6, br2_6⟩ := hB2.is 6
 have lr2_6 := hB2.lr 6 br2_6
 have k2_4 := kt hg2 4 k1_4
 have k2_5 := kt hg2 5 k1_5
 have k2_12 := kt hg2 12 (hB2.is 4)
 have k2_13 := kt hg2 13 (hB2.is 5)
 have k2_7 := kt hg2 7 r2_6
 obtain ⟨W3, hW3⟩ : ∃ W', W' = W2.setRow (s2 6) #[.slice (some ⟨tx, ux, none⟩) (3) (cx), .slice (some ⟨tf, uf, none⟩) (1) (cf), .slice (some ⟨bp, oP, none⟩) (np) (cp), .slice (some ⟨bq, oq, none⟩) (nq) (cq), .int .i64 wh] := ⟨_, rfl⟩
 refine tail_skip (o := _) rfl ⟨rfl, rfl⟩ (run_seg hW3 (fr_ev k2_7) (fr_ev k2_12) br2_6 rfl rfl rfl rfl) ?_
 obtain ⟨fB3, nb3, ot3, z3⟩ := seg_facts hW3 fB2 br2_6 (by omega)
 clear hW3
 have b3_0 := ot3 _ _ (by omega) b2_0
 have b3_1 := ot3 _ _ (by omega) b2_1
 have b3_2 := ot3 _ _ (by omega) b2_2
 have b3_3 := ot3 _ _ (by omega) b2_3
 refine tail_value (o := _) rfl rfl rfl (v := .int .i64 0) (by simp [go_sem, frv 26 k2_13]) ?_
 generalize hg4 : upd g2 6 (.int .i64 0) = g4
 have k4_4 := ku hg4 4 k2_4
 have k4_5 := ku hg4 5 k2_5
 have k4_7 := ku hg4 7 k2_7
 have k4_6 := kt hg4 6 (upd_same _ _ _)
 refine wpOps_end ?_
 refine hK2 _ _ ?_
 refine wp_seq_k fun K3 hK3 => ?_
 refine wp_seq_k fun K4 hK4 => ?_
 refine region_dk 2 [(14, 0), (15, 1)] [[], [0]] (rel [is (.int .i64 0),
   is (.bool false)])
  ⟨is_k, is_k, trivial⟩
  ⟨fun f s W c d h j k a => opv rfl rfl (by simp [go_sem, a.e 6 k4_6]) rfl,
  fun f s W c d h j k a => opv rfl rfl (by simp [go_sem, a.e 14 (d 0 rfl)]) rfl, trivial⟩ ?_
 intro f5 s5 W5 hB5 g5 hg5
 have fB5 := hB5.f fB3
 have z5 := hB5.below.size
 have b5_0 := hB5.b b3_0
 have b5_1 := hB5.b b3_1
 have b5_2 := hB5.b b3_2
 have b5_3 := hB5.b b3_3
 have b5_4 := hB5.b nb3
 refine hK4 _ _ ?_
 have k5_4 := kt hg5 4 k4_4
 have k5_5 := kt hg5 5 k4_5
 have k5_7 := kt hg5 7 k4_7
 have k5_6 := kt hg5 6 k4_6
 have k5_15 := kt hg5 15 (hB5.is 1)
 refine wp_cond_false ((fr_eval rfl).trans k5_15) ?_
 refine wp_skip ?_
 refine hK3 _ _ ?_
 refine wp_seq_k fun K6 hK6 => ?_
 refine region_dk 5 [(20, 0), (21, 1), (19, 2), (22, 3), (23, 4)] [[], [0], [0, 1], [0, 1, 2], [0, 1, 2], [0, 1, 2, 3], [0, 1, 2, 3, 4, 5]] (rel [is (.agg #[.slice (some ⟨tx, ux, none⟩) (3) (cx), .slice (some ⟨tf, uf, none⟩) (1) (cf), .slice (some ⟨bp, oP, none⟩) (np) (cp), .slice (some ⟨bq, oq, none⟩) (nq) (cq), .int .i64 wh]),
   is (.tuple #[.agg #[.int .i64 ma, .int .i64 mb], .agg #[.int .i64 ka, .int .i64 kb]]),
   is (.tuple #[.agg #[.int .i64 ma, .int .i64 mb], .agg #[.int .i64 ka, .int .i64 kb]]),
   is (.agg #[.int .i64 ma, .int .i64 mb]),
   is (.agg #[.int .i64 ka, .int .i64 kb])])
  ⟨is_k, is_k, is_k, is_k, is_k, trivial⟩
  ⟨fun f s W c d h j k a => opl rfl rfl rfl (a.v 7 k5_7) (blk_below b5_4 c) Try.underlying72 rfl (by kernel_rfl) rfl,
  fun f s W c d h j k a => by have l := below_trans fB5 c; exact opc rfl rfl (by simp [go_sem, a.e 20 (d 0 rfl)]) (measure_1 ps qs bp oP np cp bq oq nq cq tx ux cx tf uf cf pa0 pa1 pa2 fa0 PA0 PA1 PA2 FA0 wh qv0 sa sb ma mb ka kb oa ob W (hP.below l) (hQ.below l) hpi hqi np1 np8 nq1 nq4 (hX.below l (Nat.le_refl _)) (hF.below l (Nat.le_refl _)) hpa0 epa0 hpa1 epa1 hpa2 epa2 hfa0 efa0 hk0 hk1 hk2 hwh gwh gw1 hqv0 gqv0 gqd0 gpi0 gwp hsa gsa hma gma hoa hka hva0 hva1 hva2 hsb gsb hmb gmb hob hkb hvb0 hvb1 hvb2),
  fun f s W c d h j k a => opv rfl rfl (by simp [go_sem, a.e 21 (d 1 rfl)]) rfl,
  fun f s W c d h j k a => opv rfl rfl (by simp [go_sem, a.e 19 (d 2 rfl)]) rfl,
  fun f s W c d h j k a => opv rfl rfl (by simp [go_sem, a.e 19 (d 2 rfl)]) rfl, trivial⟩ ?_
 intro f6 s6 W6 hB6 g6 hg6
 have fB6 := hB6.f fB5
 have z6 := hB6.below.size
 have b6_0 := hB6.b b5_0
 have b6_1 := hB6.b b5_1
 have b6_2 := hB6.b b5_2
 have b6_3 := hB6.b b5_3
 have b6_4 := hB6.b b5_4
 have k6_4 := kt hg6 4 k5_4
 have k6_5 := kt hg6 5 k5_5
 have k6_6 := kt hg6 6 k5_6
 have k6_22 := kt hg6 22 (hB6.is 3)
 have k6_23 := kt hg6 23 (hB6.is 4)
 obtain ⟨W7, hW7⟩ : ∃ W', W' = W6.setRow (s1 2) #[.int .i64 ma, .int .i64 mb] := ⟨_, rfl⟩
 refine tail_skip (o := _) rfl ⟨rfl, rfl⟩ (run_seg hW7 (fr_ev k6_4) (fr_ev k6_22) b6_2 rfl rfl rfl rfl) ?_
 obtain ⟨fB7, nb7, ot7, z7⟩ := seg_facts hW7 fB6 b6_2 (by omega)
 clear hW7
 have b7_0 := ot7 _ _ (by omega) b6_0
 have b7_1 := ot7 _ _ (by omega) b6_1
 have b7_3 := ot7 _ _ (by omega) b6_3
 have b7_4 := ot7 _ _ (by omega) b6_4
 obtain ⟨W8, hW8⟩ : ∃ W', W' = W7.setRow (s1 3) #[.int .i64 ka, .int .i64 kb] := ⟨_, rfl⟩
 refine tail_skip (o := _) rfl ⟨rfl, rfl⟩ (run_seg hW8 (fr_ev k6_5) (fr_ev k6_23) b7_3 rfl rfl rfl rfl) ?_
 obtain ⟨fB8, nb8, ot8, z8⟩ := seg_facts hW8 fB7 b7_3 (by omega)
 clear hW8
 have b8_0 := ot8 _ _ (by omega) b7_0
 have b8_1 := ot8 _ _ (by omega) b7_1
 have b8_2 := ot8 _ _ (by omega) nb7
 have b8_4 := ot8 _ _ (by omega) b7_4
 refine wpOps_end ?_
 refine hK6 _ _ ?_
 refine wp_seq_k fun K7 hK7 => ?_
 refine region_dk 5 [(24, 0), (25, 1), (6, 4)] [[], [], [0], [0, 1, 2], [0, 1, 2, 3]] (rel [is (.agg #[.int .i64 ma, .int .i64 mb]),
   is (.agg #[.int .i64 ka, .int .i64 kb]),
   is (undef),
   is (undef),
   is (.int .i64 0)])
  ⟨is_k, is_k, is_k, is_k, is_k, trivial⟩
  ⟨fun f s W c d h j k a => opv rfl rfl (by simp [go_sem, a.e 4 k6_4, cb b8_2 c 0, cb b8_2 c 1]) rfl,
  fun f s W c d h j k a => opv rfl rfl (by simp [go_sem, a.e 5 k6_5, cb nb8 c 0, cb nb8 c 1]) rfl,
  fun f s W c d h j k a => ops_same rfl ⟨rfl, rfl⟩ (run_seg (setRow_self W _ _ _ _ (blk_below b8_2 c)).symm (a.v 4 k6_4) (a.v 24 (d 0 rfl)) (blk_below b8_2 c) rfl rfl rfl rfl),
  fun f s W c d h j k a => ops_same rfl ⟨rfl, rfl⟩ (run_seg (setRow_self W _ _ _ _ (blk_below nb8 c)).symm (a.v 5 k6_5) (a.v 25 (d 1 rfl)) (blk_below nb8 c) rfl rfl rfl rfl),
  fun f s W c d h j k a => opv rfl rfl (by simp [go_sem]) rfl, trivial⟩ ?_
 intro f9 s9 W9 hB9 g9 hg9
 have fB9 := hB9.f fB8
 have z9 := hB9.below.size
 have b9_0 := hB9.b b8_0
 have b9_1 := hB9.b b8_1
 have b9_2 := hB9.b b8_2
 have b9_3 := hB9.b nb8
 have b9_4 := hB9.b b8_4
 refine hK7 _ _ ?_
 have k9_4 := kt hg9 4 k6_4
 have k9_5 := kt hg9 5 k6_5
 have k9_6 := kt hg9 6 (hB9.is 4)
 refine wp_ret ?_
 refine leave_gen (v := .tuple #[.agg #[.int .i64 ma, .int .i64 mb], .agg #[.int .i64 ka, .int .i64 kb], .int .i64 0]) (.inr rfl) (by simp [results, Try.results8, go_sem, frv 26 k9_4, cl b9_2 0, cl b9_2 1, frv 26 k9_5, cl b9_3 0, cl b9_3 1, frv 26 k9_6]) ?_
 exact ⟨rfl, fB9⟩
end Go.Proofs.Ytiocklgakklkpaa
