/- Part of the proof: what the claim leans on. -/
import Derived.Test.YtiocklgakklkpaaNAL
import Derived.Test.YtiocklgakklkpaaNAM
set_option linter.unusedSimpArgs false
set_option linter.unusedVariables false
namespace Go.Proofs.Ytiocklgakklkpaa
open Go.RowKit
set_option maxRecDepth 100000 in
set_option maxHeartbeats 400000 in
theorem low_ok (x y : Int) (w : World) :
  Calls Try.prog 38 #[.agg #[.int .i64 x, .int .i64 y]] w (fun e w' => e = .returned (.int .i64 x) ∧ Below w.heap.size w w') := by
 refine calls_fr Try.func38 Try.ntmps38 rfl rfl fun g hg => ?_
 have k0 : g 0 = .agg #[.int .i64 x, .int .i64 y] := hg 0
 clear hg
 have fB0 : Below w.heap.size w w := Below.refl _ _
 refine wp_seq_k fun K1 hK1 => ?_
 refine region_dk 2 [(1, 0), (2, 1)] [[], []] (rel [bx 0 #[.int .i64 x, .int .i64 y] 40,
   is (.int .i64 0)])
  ⟨bx_k, is_k, trivial⟩
  ⟨fun f s W c d h i j a => opb rfl rfl (by simp [go_sem, a.e 0 k0]),
  fun f s W c d h i j a => opv rfl rfl (by simp [go_sem]) rfl, trivial⟩ ?_
 intro f1 s1 W1 hB1 g1 hg1
 have fB1 := hB1.f fB0
 have z1 := hB1.below.size
 obtain ⟨r1_0, br1_0⟩ := hB1.is 0
 have lr1_0 := hB1.lr 0 br1_0
 refine hK1 _ _ ?_
 have k1_1 := kt hg1 1 r1_0
 have k1_2 := kt hg1 2 (hB1.is 1)
 refine wp_seq_k fun K2 hK2 => ?_
 refine region_dk 3 [(3, 0), (4, 1), (2, 2)] [[], [0], [0, 1]] (rel [is (.pointer (some ⟨(s1 0), 0, none⟩)),
   is (.int .i64 x),
   is (.int .i64 x)])
  ⟨is_k, is_k, is_k, trivial⟩
  ⟨fun f s W c d h i j a => opv rfl rfl (by simp [go_sem, a.e 1 k1_1]) rfl,
  fun f s W c d h i j a => opv rfl rfl (by simp [go_sem, a.e 3 (d 0 rfl), cb br1_0 c 0]) rfl,
  fun f s W c d h i j a => opv rfl rfl (by simp [go_sem, a.e 4 (d 1 rfl)]) rfl, trivial⟩ ?_
 intro f2 s2 W2 hB2 g2 hg2
 have fB2 := hB2.f fB1
 have z2 := hB2.below.size
 have b2_0 := hB2.b br1_0
 refine hK2 _ _ ?_
 have k2_2 := kt hg2 2 (hB2.is 2)
 refine wp_ret ?_
 refine leave_one (N := 5) (v := .int .i64 x) (.inr rfl) Try.results38 rfl k2_2 ?_
 exact ⟨rfl, fB2⟩
set_option maxRecDepth 100000 in
set_option maxHeartbeats 400000 in
theorem moistP_1 (p : Pa) (hin : PaIn p) (bz : Nat) (w : World) (hz' : w.heap[bz]? = some (.cells #[.func (.func 38) #[] #[]] 100 (0, 0))) (gm : 0 ≤ p.weight * (1000 + p.m1) ∧ p.weight * (1000 + p.m1) ≤ 1200000) :
  Calls Try.prog 63 #[.agg #[.int .i64 p.kind, .int .i64 p.weight, .int .i64 p.t1, .int .i64 p.t2, .int .i64 p.m1, .int .i64 p.m2, .int .i64 p.price, .int .i64 p.strong], .pointer (some ⟨bz, 0, none⟩)] w (fun e w' => e = .returned (.int .i64 (p.weight * (1000 + p.m1))) ∧ Below w.heap.size w w') := by
 have gm1 := hin.moist
 have gm2 := hin.weight
 refine calls_fr Try.func63 Try.ntmps63 rfl rfl fun g hg => ?_
 have k0 : g 0 = .agg #[.int .i64 p.kind, .int .i64 p.weight, .int .i64 p.t1, .int .i64 p.t2, .int .i64 p.m1, .int .i64 p.m2, .int .i64 p.price, .int .i64 p.strong] := hg 0
 have k1 : g 1 = .pointer (some ⟨bz, 0, none⟩) := hg 1
 clear hg
 have fB0 : Below w.heap.size w w := Below.refl _ _
 have lt_bz := lt_of_blk hz'
 refine wp_seq_k fun K1 hK1 => ?_
 refine region_dk 2 [(2, 0), (3, 1)] [[], []] (rel [bx 0 #[.int .i64 p.kind, .int .i64 p.weight, .int .i64 p.t1, .int .i64 p.t2, .int .i64 p.m1, .int .i64 p.m2, .int .i64 p.price, .int .i64 p.strong] 68,
   is (.int .i64 0)])
  ⟨bx_k, is_k, trivial⟩
  ⟨fun f s W c d h i j a => opb rfl rfl (by simp [go_sem, a.e 0 k0]),
  fun f s W c d h i j a => opv rfl rfl (by simp [go_sem]) rfl, trivial⟩ ?_
 intro f1 s1 W1 hB1 g1 hg1
 have fB1 := hB1.f fB0
 have z1 := hB1.below.size
 have b1_0 := hB1.b hz'
 obtain ⟨r1_0, br1_0⟩ := hB1.is 0
 have lr1_0 := hB1.lr 0 br1_0
 refine hK1 _ _ ?_
 have k1_1 := kt hg1 1 k1
 have k1_2 := kt hg1 2 r1_0
 have k1_3 := kt hg1 3 (hB1.is 1)
 refine wp_seq_k fun K2 hK2 => ?_
 refine region_dk 9 [(4, 0), (5, 1), (6, 2), (7, 3), (8, 4), (9, 5), (10, 6), (11, 7), (3, 8)] [[], [0], [], [], [3], [2, 3, 4], [2, 3, 4, 5], [0, 1, 2, 3, 4, 5, 6], [0, 1, 2, 3, 4, 5, 6, 7]] (rel [is (.pointer (some ⟨(s1 0), 1, none⟩)),
   is (.int .i64 p.weight),
   is (.func (.func 38) #[] #[]),
   is (.pointer (some ⟨(s1 0), 4, none⟩)),
   is (.agg #[.int .i64 p.m1, .int .i64 p.m2]),
   is (.int .i64 p.m1),
   is (.int .i64 (1000 + p.m1)),
   is (.int .i64 (p.weight * (1000 + p.m1))),
   is (.int .i64 (p.weight * (1000 + p.m1)))])
  ⟨is_k, is_k, is_k, is_k, is_k, is_k, is_k, is_k, is_k, trivial⟩
  ⟨fun f s W c d h i j a => opv rfl rfl (by simp [go_sem, a.e 2 k1_2]) rfl,
  fun f s W c d h i j a => opv rfl rfl (by simp [go_sem, a.e 4 (d 0 rfl), cb br1_0 c 1]) rfl,
  fun f s W c d h i j a => opv rfl rfl (by simp [go_sem, a.e 1 k1_1, cb b1_0 c 0]) rfl,
  fun f s W c d h i j a => opv rfl rfl (by simp [go_sem, a.e 2 k1_2]) rfl,
  fun f s W c d h i j a => opv rfl rfl (by simp [go_sem, a.e 7 (d 3 rfl), cb br1_0 c 4, cb br1_0 c 5]) rfl,
  fun f s W c d h i j a => opc rfl rfl (by simp [go_sem, a.e 8 (d 4 rfl), a.e 6 (d 2 rfl)]) (low_ok (p.m1) (p.m2) W),
  fun f s W c d h i j a => opv rfl rfl (by simp [go_sem, a.e 9 (d 5 rfl), IntWalk.i64_in (1000 + p.m1) (by omega)]) rfl,
  fun f s W c d h i j a => opv rfl rfl (by simp [go_sem, a.e 5 (d 1 rfl), a.e 10 (d 6 rfl), IntWalk.i64_in (p.weight * (1000 + p.m1)) (by omega)]) rfl,
  fun f s W c d h i j a => opv rfl rfl (by simp [go_sem, a.e 11 (d 7 rfl)]) rfl, trivial⟩ ?_
 intro f2 s2 W2 hB2 g2 hg2
 have fB2 := hB2.f fB1
 have z2 := hB2.below.size
 have b2_0 := hB2.b b1_0
 have b2_1 := hB2.b br1_0
 refine hK2 _ _ ?_
 have k2_3 := kt hg2 3 (hB2.is 8)
 refine wp_ret ?_
 refine leave_one (N := 12) (v := .int .i64 (p.weight * (1000 + p.m1))) (.inr rfl) Try.results63 rfl k2_3 ?_
 exact ⟨rfl, fB2⟩
set_option maxRecDepth 100000 in
set_option maxHeartbeats 400000 in
theorem high_ok (x y : Int) (w : World) :
  Calls Try.prog 39 #[.agg #[.int .i64 x, .int .i64 y]] w (fun e w' => e = .returned (.int .i64 y) ∧ Below w.heap.size w w') := by
 refine calls_fr Try.func39 Try.ntmps39 rfl rfl fun g hg => ?_
 have k0 : g 0 = .agg #[.int .i64 x, .int .i64 y] := hg 0
 clear hg
 have fB0 : Below w.heap.size w w := Below.refl _ _
 refine wp_seq_k fun K1 hK1 => ?_
 refine region_dk 2 [(1, 0), (2, 1)] [[], []] (rel [bx 0 #[.int .i64 x, .int .i64 y] 40,
   is (.int .i64 0)])
  ⟨bx_k, is_k, trivial⟩
  ⟨fun f s W c d h i j a => opb rfl rfl (by simp [go_sem, a.e 0 k0]),
  fun f s W c d h i j a => opv rfl rfl (by simp [go_sem]) rfl, trivial⟩ ?_
 intro f1 s1 W1 hB1 g1 hg1
 have fB1 := hB1.f fB0
 have z1 := hB1.below.size
 obtain ⟨r1_0, br1_0⟩ := hB1.is 0
 have lr1_0 := hB1.lr 0 br1_0
 refine hK1 _ _ ?_
 have k1_1 := kt hg1 1 r1_0
 have k1_2 := kt hg1 2 (hB1.is 1)
 refine wp_seq_k fun K2 hK2 => ?_
 refine region_dk 3 [(3, 0), (4, 1), (2, 2)] [[], [0], [0, 1]] (rel [is (.pointer (some ⟨(s1 0), 1, none⟩)),
   is (.int .i64 y),
   is (.int .i64 y)])
  ⟨is_k, is_k, is_k, trivial⟩
  ⟨fun f s W c d h i j a => opv rfl rfl (by simp [go_sem, a.e 1 k1_1]) rfl,
  fun f s W c d h i j a => opv rfl rfl (by simp [go_sem, a.e 3 (d 0 rfl), cb br1_0 c 1]) rfl,
  fun f s W c d h i j a => opv rfl rfl (by simp [go_sem, a.e 4 (d 1 rfl)]) rfl, trivial⟩ ?_
 intro f2 s2 W2 hB2 g2 hg2
 have fB2 := hB2.f fB1
 have z2 := hB2.below.size
 have b2_0 := hB2.b br1_0
 refine hK2 _ _ ?_
 have k2_2 := kt hg2 2 (hB2.is 2)
 refine wp_ret ?_
 refine leave_one (N := 5) (v := .int .i64 y) (.inr rfl) Try.results39 rfl k2_2 ?_
 exact ⟨rfl, fB2⟩
set_option maxRecDepth 100000 in
set_option maxHeartbeats 400000 in
theorem moistP_2 (p : Pa) (hin : PaIn p) (bz : Nat) (w : World) (hz' : w.heap[bz]? = some (.cells #[.func (.func 39) #[] #[]] 100 (0, 0))) (gm : 0 ≤ p.weight * (1000 + p.m2) ∧ p.weight * (1000 + p.m2) ≤ 1200000) :
  Calls Try.prog 63 #[.agg #[.int .i64 p.kind, .int .i64 p.weight, .int .i64 p.t1, .int .i64 p.t2, .int .i64 p.m1, .int .i64 p.m2, .int .i64 p.price, .int .i64 p.strong], .pointer (some ⟨bz, 0, none⟩)] w (fun e w' => e = .returned (.int .i64 (p.weight * (1000 + p.m2))) ∧ Below w.heap.size w w') := by
 have gm1 := hin.moist
 have gm2 := hin.weight
 refine calls_fr Try.func63 Try.ntmps63 rfl rfl fun g hg => ?_
 have k0 : g 0 = .agg #[.int .i64 p.kind, .int .i64 p.weight, .int .i64 p.t1, .int .i64 p.t2, .int .i64 p.m1, .int .i64 p.m2, .int .i64 p.price, .int .i64 p.strong] := hg 0
 have k1 : g 1 = .pointer (some ⟨bz, 0, none⟩) := hg 1
 clear hg
 have fB0 : Below w.heap.size w w := Below.refl _ _
 have lt_bz := lt_of_blk hz'
 refine wp_seq_k fun K1 hK1 => ?_
 refine region_dk 2 [(2, 0), (3, 1)] [[], []] (rel [bx 0 #[.int .i64 p.kind, .int .i64 p.weight, .int .i64 p.t1, .int .i64 p.t2, .int .i64 p.m1, .int .i64 p.m2, .int .i64 p.price, .int .i64 p.strong] 68,
   is (.int .i64 0)])
  ⟨bx_k, is_k, trivial⟩
  ⟨fun f s W c d h i j a => opb rfl rfl (by simp [go_sem, a.e 0 k0]),
  fun f s W c d h i j a => opv rfl rfl (by simp [go_sem]) rfl, trivial⟩ ?_
 intro f1 s1 W1 hB1 g1 hg1
 have fB1 := hB1.f fB0
 have z1 := hB1.below.size
 have b1_0 := hB1.b hz'
 obtain ⟨r1_0, br1_0⟩ := hB1.is 0
 have lr1_0 := hB1.lr 0 br1_0
 refine hK1 _ _ ?_
 have k1_1 := kt hg1 1 k1
 have k1_2 := kt hg1 2 r1_0
 have k1_3 := kt hg1 3 (hB1.is 1)
 refine wp_seq_k fun K2 hK2 => ?_
 refine region_dk 9 [(4, 0), (5, 1), (6, 2), (7, 3), (8, 4), (9, 5), (10, 6), (11, 7), (3, 8)] [[], [0], [], [], [3], [2, 3, 4], [2, 3, 4, 5], [0, 1, 2, 3, 4, 5, 6], [0, 1, 2, 3, 4, 5, 6, 7]] (rel [is (.pointer (some ⟨(s1 0), 1, none⟩)),
   is (.int .i64 p.weight),
   is (.func (.func 39) #[] #[]),
   is (.pointer (some ⟨(s1 0), 4, none⟩)),
   is (.agg #[.int .i64 p.m1, .int .i64 p.m2]),
   is (.int .i64 p.m2),
   is (.int .i64 (1000 + p.m2)),
   is (.int .i64 (p.weight * (1000 + p.m2))),
   is (.int .i64 (p.weight * (1000 + p.m2)))])
  ⟨is_k, is_k, is_k, is_k, is_k, is_k, is_k, is_k, is_k, trivial⟩
  ⟨fun f s W c d h i j a => opv rfl rfl (by simp [go_sem, a.e 2 k1_2]) rfl,
  fun f s W c d h i j a => opv rfl rfl (by simp [go_sem, a.e 4 (d 0 rfl), cb br1_0 c 1]) rfl,
  fun f s W c d h i j a => opv rfl rfl (by simp [go_sem, a.e 1 k1_1, cb b1_0 c 0]) rfl,
  fun f s W c d h i j a => opv rfl rfl (by simp [go_sem, a.e 2 k1_2]) rfl,
  fun f s W c d h i j a => opv rfl rfl (by simp [go_sem, a.e 7 (d 3 rfl), cb br1_0 c 4, cb br1_0 c 5]) rfl,
  fun f s W c d h i j a => opc rfl rfl (by simp [go_sem, a.e 8 (d 4 rfl), a.e 6 (d 2 rfl)]) (high_ok (p.m1) (p.m2) W),
  fun f s W c d h i j a => opv rfl rfl (by simp [go_sem, a.e 9 (d 5 rfl), IntWalk.i64_in (1000 + p.m2) (by omega)]) rfl,
  fun f s W c d h i j a => opv rfl rfl (by simp [go_sem, a.e 5 (d 1 rfl), a.e 10 (d 6 rfl), IntWalk.i64_in (p.weight * (1000 + p.m2)) (by omega)]) rfl,
  fun f s W c d h i j a => opv rfl rfl (by simp [go_sem, a.e 11 (d 7 rfl)]) rfl, trivial⟩ ?_
 intro f2 s2 W2 hB2 g2 hg2
 have fB2 := hB2.f fB1
 have z2 := hB2.below.size
 have b2_0 := hB2.b b1_0
 have b2_1 := hB2.b br1_0
 refine hK2 _ _ ?_
 have k2_3 := kt hg2 3 (hB2.is 8)
 refine wp_ret ?_
 refine leave_one (N := 12) (v := .int .i64 (p.weight * (1000 + p.m2))) (.inr rfl) Try.results63 rfl k2_3 ?_
 exact ⟨rfl, fB2⟩
set_option maxRecDepth 100000 in
set_option maxHeartbeats 4000000 in
theorem sheetOf_1 (ps : Nat → Pa) (qs : Nat → Fu) (bp oP np cp bq oq nq cq : Nat) (tx ux cx tf uf cf pa0 pa1 pa2 fa0 : Nat) (PA0 PA1 PA2 : Pa) (FA0 : Fu) (wh : Int) (w : World) (hP : PaR w bp oP np ps) (hQ : FuR w bq oq nq qs) (hpi : ∀ i, i < np → PaIn (ps i)) (hqi : ∀ i, i < nq → FuIn (qs i)) (np1 : 1 ≤ np) (np8 : np ≤ 8) (nq1 : 1 ≤ nq) (nq4 : nq ≤ 4) (hX : Ii w (some ⟨tx, ux, none⟩) 3 cx [(pa0 : Int), (pa1 : Int), (pa2 : Int)]) (hF : Ii w (some ⟨tf, uf, none⟩) 1 cf [(fa0 : Int)]) (hpa0 : pa0 < np) (epa0 : ps pa0 = PA0) (hpa1 : pa1 < np) (epa1 : ps pa1 = PA1) (hpa2 : pa2 < np) (epa2 : ps pa2 = PA2) (hfa0 : fa0 < nq) (efa0 : qs fa0 = FA0) (hk0 : PA0.kind = 1) (hk1 : PA1.kind = 2) (hk2 : PA2.kind = 1) (hwh : FA0.pitch = wh) (gwh : 0 ≤ wh ∧ wh ≤ 100000000) (gw1 : 0 ≤ FA0.pitch ∧ FA0.pitch ≤ 10000) :
  Calls Try.prog 37 #[.agg #[.slice (some ⟨bp, oP, none⟩) (np) (cp), .slice (some ⟨bq, oq, none⟩) (nq) (cq)], .agg #[.slice (some ⟨tx, ux, none⟩) (3) (cx), .slice (some ⟨tf, uf, none⟩) (1) (cf)]] w (fun e w' => e = .returned (.agg #[.slice (some ⟨tx, ux, none⟩) (3) (cx), .slice (some ⟨tf, uf, none⟩) (1) (cf), .slice (some ⟨bp, oP, none⟩) (np) (cp), .slice (some ⟨bq, oq, none⟩) (nq) (cq), .int .i64 wh]) ∧ Below w.heap.size w w') := by
 have gw2 : 0 ≤ FA0.pitch ∧ FA0.pitch ≤ 100000000 := by rw [hwh]; exact gwh
 refine calls_fr Try.func37 Try.ntmps37 rfl rfl fun g hg => ?_
 have k0 : g 0 = .agg #[.slice (some ⟨bp, oP, none⟩) (np) (cp), .slice (some ⟨bq, oq, none⟩) (nq) (cq)] := hg 0
 have k1 : g 1 = .agg #[.slice (some ⟨tx, ux, none⟩) (3) (cx), .slice (some ⟨tf, uf, none⟩) (1) (cf)] := hg 1
 clear hg
 have fB0 : Below w.heap.size w w := Below.refl _ _
 refine wp_seq_k fun K1 hK1 => ?_
 refine region_dk 3 [(2, 0), (3, 1), (4, 2)] [[], [], []] (rel [bx 0 #[.slice (some ⟨bp, oP, none⟩) (np) (cp), .slice (some ⟨bq, oq, none⟩) (nq) (cq)] 33,
   bx 1 #[.slice (some ⟨tx, ux, none⟩) (3) (cx), .slice (some ⟨tf, uf, none⟩) (1) (cf)] 46,
   bx 2 #[.slice (none) (0) (0), .slice (none) (0) (0), .slice (none) (0) (0), .slice (none) (0) (0), .int .i64 0] 72])
  ⟨bx_k, bx_k, bx_k, trivial⟩
  ⟨fun f s W c d h j k a => opb rfl rfl (by simp [go_sem, a.e 0 k0]),
  fun f s W c d h j k a => opb rfl rfl (by simp [go_sem, a.e 1 k1]),
  fun f s W c d h j k a => opb rfl rfl (by simp [go_sem]), trivial⟩ ?_
 intro f1 s1 W1 hB1 g1 hg1
 have fB1 := hB1.f fB0
 have z1 := hB1.below.size
 obtain ⟨r1_0, br1_0⟩ := hB1.is 0
 have lr1_0 := hB1.lr 0 br1_0
 obtain ⟨r1_1, br1_1⟩ := hB1.is 1
 have lr1_1 := hB1.lr 1 br1_1
 obtain ⟨r1_2, br1_2⟩ := hB1.is 2
 have lr1_2 := hB1.lr 2 br1_2
 have ne1_0_1 := hB1.nb 0 1
 have ne1_0_2 := hB1.nb 0 2
 have ne1_1_2 := hB1.nb 1 2
 refine hK1 _ _ ?_
 have k1_2 := kt hg1 2 r1_0
 have k1_3 := kt hg1 3 r1_1
 have k1_4 := kt hg1 4 r1_2
 refine wp_seq_k fun K2 hK2 => ?_
 refine region_dk 4 [(8, 0), (9, 1), (10, 2), (5, 3)] [[], [], [0, 1], [], [0, 1, 2, 3]] (rel [is (.agg #[.slice (some ⟨tx, ux, none⟩) (3) (cx), .slice (some ⟨tf, uf, none⟩) (1) (cf)]),
   is (.agg #[.slice (some ⟨bp, oP, none⟩) (np) (cp), .slice (some ⟨bq, oq, none⟩) (nq) (cq)]),
   is (.agg #[.slice (some ⟨tx, ux, none⟩) (3) (cx), .slice (some ⟨tf, uf, none⟩) (1) (cf), .slice (some ⟨bp, oP, none⟩) (np) (cp), .slice (some ⟨bq, oq, none⟩) (nq) (cq), .int .i64 1]),
   bx 3 #[.slice (none) (0) (0), .slice (none) (0) (0), .slice (none) (0) (0), .slice (none) (0) (0), .int .i64 0] 72])
  ⟨is_k, is_k, is_k, bx_k, trivial⟩
  ⟨fun f s W c d h j k a => opv rfl rfl (by simp [go_sem, a.e 3 k1_3, cb br1_1 c 0, cb br1_1 c 1]) rfl,
  fun f s W c d h j k a => opv rfl rfl (by simp [go_sem, a.e 2 k1_2, cb br1_0 c 0, cb br1_0 c 1]) rfl,
  fun f s W c d h j k a => opv rfl rfl (by simp [go_sem, a.e 8 (d 0 rfl), a.e 9 (d 1 rfl)]) rfl,
  fun f s W c d h j k a => opb rfl rfl (by simp [go_sem]), trivial⟩ ?_
 intro f2 s2 W2 hB2 g2 hg2
 have fB2 := hB2.f fB1
 have z2 := hB2.below.size
 have b2_0 := hB2.b br1_0
 have b2_1 := hB2.b br1_1
 have b2_2 := hB2.b br1_2
 obtain ⟨r2_3, br2_3⟩ := hB2.is 3
 have lr2_3 := hB2.lr 3 br2_3
 have k2_2 := kt hg2 2 k1_2
 have k2_3 := kt hg2 3 k1_3
 have k2_4 := kt hg2 4 k1_4
 have k2_10 := kt hg2 10 (hB2.is 2)
 have k2_5 := kt hg2 5 r2_3
 obtain ⟨W3, hW3⟩ : ∃ W', W' = W2.setRow (s2 3) #[.slice (some ⟨tx, ux, none⟩) (3) (cx), .slice (some ⟨tf, uf, none⟩) (1) (cf), .slice (some ⟨bp, oP, none⟩) (np) (cp), .slice (some ⟨bq, oq, none⟩) (nq) (cq), .int .i64 1] := ⟨_, rfl⟩
 refine tail_skip (o := _) rfl ⟨rfl, rfl⟩ (run_seg hW3 (fr_ev k2_5) (fr_ev k2_10) br2_3 rfl rfl rfl rfl) ?_
 obtain ⟨fB3, nb3, ot3, z3⟩ := seg_facts hW3 fB2 br2_3 (by omega)
 clear hW3
 have b3_0 := ot3 _ _ (by omega) b2_0
 have b3_1 := ot3 _ _ (by omega) b2_1
 have b3_2 := ot3 _ _ (by omega) b2_2
 refine wpOps_end ?_
 refine hK2 _ _ ?_
 refine wp_seq_k fun K3 hK3 => ?_
 refine wp_seq_k fun K4 hK4 => ?_
 refine region_dk 4 [(11, 0), (12, 1), (13, 2), (14, 3)] [[], [0], [0, 1], []] (rel [is (.pointer (some ⟨(s1 1), 1, none⟩)),
   is (.slice (some ⟨tf, uf, none⟩) (1) (cf)),
   is (.int .i64 1),
   is (.int .i64 0)])
  ⟨is_k, is_k, is_k, is_k, trivial⟩
  ⟨fun f s W c d h j k a => opv rfl rfl (by simp [go_sem, a.e 3 k2_3]) rfl,
  fun f s W c d h j k a => opv rfl rfl (by simp [go_sem, a.e 11 (d 0 rfl), cb b3_1 c 1]) rfl,
  fun f s W c d h j k a => opv rfl rfl (by simp [go_sem, a.e 12 (d 1 rfl)]) rfl,
  fun f s W c d h j k a => opv rfl rfl (by simp [go_sem]) rfl, trivial⟩ ?_
 intro f4 s4 W4 hB4 g4 hg4
 have fB4 := hB4.f fB3
 have z4 := hB4.below.size
 have b4_0 := hB4.b b3_0
 have b4_1 := hB4.b b3_1
 have b4_2 := hB4.b b3_2
 have b4_3 := hB4.b nb3
 refine hK4 _ _ ?_
 have k4_2 := kt hg4 2 k2_2
 have k4_4 := kt hg4 4 k2_4
 have k4_5 := kt hg4 5 k2_5
 have k4_12 := kt hg4 12 (hB4.is 1)
 have k4_13 := kt hg4 13 (hB4.is 2)
 have k4_14 := kt hg4 14 (hB4.is 3)
 refine wp_block ?_
 refine wp_loop_rounds 2 ?_
 rw [rounds_succ]
 refine wp_seq_k fun K5 hK5 => ?_
 refine region_dk 1 [(15, 0)] [[]] (rel [is (.bool true)])
  ⟨is_k, trivial⟩
  ⟨fun f s W c d h j k a => opv rfl rfl (by simp [go_sem, a.e 14 k4_14, a.e 13 k4_13]) rfl, trivial⟩ ?_
 intro f5 s5 W5 hB5 g5 hg5
 have fB5 := hB5.f fB4
 have z5 := hB5.below.size
 have b5_0 := hB5.b b4_0
 have b5_1 := hB5.b b4_1
 have b5_2 := hB5.b b4_2
 have b5_3 := hB5.b b4_3
 refine hK5 _ _ ?_
 have k5_2 := kt hg5 2 k4_2
 have k5_4 := kt hg5 4 k4_4
 have k5_5 := kt hg5 5 k4_5
 have k5_12 := kt hg5 12 k4_12
 have k5_13 := kt hg5 13 k4_13
 have k5_14 := kt hg5 14 k4_14
 have k5_15 := kt hg5 15 (hB5.is 0)
 refine wp_seq_k fun K6 hK6 => ?_
 refine wp_cond_true ((fr_eval rfl).trans k5_15) ?_
 refine wp_skip ?_
 refine hK6 _ _ ?_
 refine wp_seq_k fun K8 hK8 => ?_
 refine wp_block ?_
 refine wp_seq_k fun K9 hK9 => ?_
 refine region_dk 3 [(16, 0), (17, 1), (7, 2)] [[], [0], [0, 1]] (rel [is (.pointer (some ⟨tf, uf, none⟩)),
   is (.int .i64 ((fa0 : Int))),
   is (.int .i64 ((fa0 : Int)))])
  ⟨is_k, is_k, is_k, trivial⟩
  ⟨fun f s W c d h j k a => opv rfl rfl (by simp [go_sem, a.e 12 k5_12, a.e 14 k5_14]) rfl,
  fun f s W c d h j k a => by have l := below_trans fB5 c; have cu : W.cell? ⟨tf, uf, none⟩ = some (.int .i64 (fa0 : Int)) := ii_cell (hF.below l (Nat.le_refl _)) 0 (by simp); exact opv rfl rfl (by simp [go_sem, a.e 16 (d 0 rfl), cu]) rfl,
  fun f s W c d h j k a => opv rfl rfl (by simp [go_sem, a.e 17 (d 1 rfl)]) rfl, trivial⟩ ?_
 intro f6 s6 W6 hB6 g6 hg6
 have fB6 := hB6.f fB5
 have z6 := hB6.below.size
 have b6_0 := hB6.b b5_0
 have b6_1 := hB6.b b5_1
 have b6_2 := hB6.b b5_2
 have b6_3 := hB6.b b5_3
 refine hK9 _ _ ?_
 have k6_2 := kt hg6 2 k5_2
 have k6_4 := kt hg6 4 k5_4
 have k6_5 := kt hg6 5 k5_5
 have k6_12 := kt hg6 12 k5_12
 have k6_13 := kt hg6 13 k5_13
 have k6_14 := kt hg6 14 k5_14
 have k6_15 := kt hg6 15 k5_15
 have k6_7 := kt hg6 7 (hB6.is 2)
 refine region_dk 10 [(18, 0), (19, 1), (20, 2), (21, 3), (22, 4), (23, 5), (24, 6), (25, 7), (26, 8), (27, 9)] [[], [0], [], [2], [], [2, 3, 4], [2, 3, 4, 5], [2, 3, 4, 5, 6], [0, 1, 2, 3, 4, 5, 6, 7], [0, 1, 2, 3, 4, 5, 6, 7, 8], [0, 1, 2, 3, 4, 5, 6, 7, 8, 9]] (rel [is (.pointer (some ⟨(s2 3), 4, none⟩)),
   is (.int .i64 1),
   is (.pointer (some ⟨(s1 0), 1, none⟩)),
   is (.slice (some ⟨bq, oq, none⟩) (nq) (cq)),
   is (.int .i64 ((fa0 : Int))),
   is (.pointer (some ⟨bq, oq + fa0 * 4, none⟩)),
   is (.pointer (some ⟨bq, oq + fa0 * 4, none⟩)),
   is (.int .i64 FA0.pitch),
   is (.int .i64 FA0.pitch),
   is (.pointer (some ⟨(s2 3), 4, none⟩))])
  ⟨is_k, is_k, is_k, is_k, is_k, is_k, is_k, is_k, is_k, is_k, trivial⟩
  ⟨fun f s W c d h j k a => opv rfl rfl (by simp [go_sem, a.e 5 k6_5]) rfl,
  fun f s W c d h j k a => opv rfl rfl (by simp [go_sem, a.e 18 (d 0 rfl), cb b6_3 c 4]) rfl,
  fun f s W c d h j k a => opv rfl rfl (by simp [go_sem, a.e 2 k6_2]) rfl,
  fun f s W c d h j k a => opv rfl rfl (by simp [go_sem, a.e 20 (d 2 rfl), cb b6_0 c 1]) rfl,
  fun f s W c d h j k a => opv rfl rfl (by simp [go_sem, a.e 7 k6_7]) rfl,
  fun f s W c d h j k a => by have li_ := Nat.not_le.2 hfa0; have lz_ : (fa0 : Int) < (nq : Int) := (by omega); exact opv rfl rfl (by simp [go_sem, a.e 21 (d 3 rfl), a.e 22 (d 4 rfl), li_, hfa0, lz_]) rfl,
  fun f s W c d h j k a => opv rfl rfl (by simp [go_sem, a.e 23 (d 5 rfl)]) rfl,
  fun f s W c d h j k a => by have l := below_trans fB6 c; have E_ := (hQ.below l).2 fa0 hfa0; rw [efa0] at E_; obtain ⟨u0_, u1_, u2_, u3_⟩ := E_; have v0_ : W.cell? ⟨bq, oq + fa0 * 4, none⟩ = some (.int .i64 FA0.pitch) := u0_; exact opv rfl rfl (by simp [go_sem, a.e 24 (d 6 rfl), v0_]) rfl,
  fun f s W c d h j k a => opv rfl rfl (by simp [go_sem, a.e 19 (d 1 rfl), a.e 25 (d 7 rfl), IntWalk.i64_in (FA0.pitch) (by omega)]) rfl,
  fun f s W c d h j k a => opv rfl rfl (by simp [go_sem, a.e 5 k6_5]) rfl, trivial⟩ ?_
 intro f7 s7 W7 hB7 g7 hg7
 have fB7 := hB7.f fB6
 have z7 := hB7.below.size
 have b7_0 := hB7.b b6_0
 have b7_1 := hB7.b b6_1
 have b7_2 := hB7.b b6_2
 have b7_3 := hB7.b b6_3
 have k7_2 := kt hg7 2 k6_2
 have k7_4 := kt hg7 4 k6_4
 have k7_5 := kt hg7 5 k6_5
 have k7_12 := kt hg7 12 k6_12
 have k7_13 := kt hg7 13 k6_13
 have k7_14 := kt hg7 14 k6_14
 have k7_15 := kt hg7 15 k6_15
 have k7_7 := kt hg7 7 k6_7
 have k7_26 := kt hg7 26 (hB7.is 8)
 have k7_27 := kt hg7 27 (hB7.is 9)
 obtain ⟨W8, hW8⟩ : ∃ W', W' = W7.setRow (s2 3) #[.slice (some ⟨tx, ux, none⟩) (3) (cx), .slice (some ⟨tf, uf, none⟩) (1) (cf), .slice (some ⟨bp, oP, none⟩) (np) (cp), .slice (some ⟨bq, oq, none⟩) (nq) (cq), .int .i64 FA0.pitch] := ⟨_, rfl⟩
 refine tail_skip (o := _) rfl ⟨rfl, rfl⟩ (run_seg hW8 (fr_ev k7_27) (fr_ev k7_26) b7_3 rfl rfl rfl rfl) ?_
 obtain ⟨fB8, nb8, ot8, z8⟩ := seg_facts hW8 fB7 b7_3 (by omega)
 clear hW8
 have b8_0 := ot8 _ _ (by omega) b7_0
 have b8_1 := ot8 _ _ (by omega) b7_1
 have b8_2 := ot8 _ _ (by omega) b7_2
 refine wpOps_end ?_
 refine inBlock_normal ?_
 refine hK8 _ _ ?_
 refine region_dk 2 [(28, 0), (14, 1)] [[], [0]] (rel [is (.int .i64 1),
   is (.int .i64 1)])
  ⟨is_k, is_k, trivial⟩
  ⟨fun f s W c d h j k a => opv rfl rfl (by simp [go_sem, a.e 14 ((j 1 14 rfl rfl).trans k7_14), IntWalk.i64_in (1) (by omega)]) rfl,
  fun f s W c d h j k a => opv rfl rfl (by simp [go_sem, a.e 28 (d 0 rfl)]) rfl, trivial⟩ ?_
 intro f9 s9 W9 hB9 g9 hg9
 have fB9 := hB9.f fB8
 have z9 := hB9.below.size
 have b9_0 := hB9.b b8_0
 have b9_1 := hB9.b b8_1
 have b9_2 := hB9.b b8_2
 have b9_3 := hB9.b nb8
 refine wpOps_end ?_
 have k9_2 := kt hg9 2 k7_2
 have k9_4 := kt hg9 4 k7_4
 have k9_5 := kt hg9 5 k7_5
 have k9_12 := kt hg9 12 k7_12
 have k9_13 := kt hg9 13 k7_13
 have k9_15 := kt hg9 15 k7_15
 have k9_7 := kt hg9 7 k7_7
 have k9_26 := kt hg9 26 k7_26
 have k9_27 := kt hg9 27 k7_27
 have k9_14 := kt hg9 14 (hB9.is 1)
 refine then_normal ?_
 rw [rounds_succ]
 refine wp_seq_k fun K10 hK10 => ?_
 refine region_dk 1 [(15, 0)] [[]] (rel [is (.bool false)])
  ⟨is_k, trivial⟩
  ⟨fun f s W c d h j k a => opv rfl rfl (by simp [go_sem, a.e 14 k9_14, a.e 13 k9_13]) rfl, trivial⟩ ?_
 intro f10 s10 W10 hB10 g10 hg10
 have fB10 := hB10.f fB9
 have z10 := hB10.below.size
 have b10_0 := hB10.b b9_0
 have b10_1 := hB10.b b9_1
 have b10_2 := hB10.b b9_2
 have b10_3 := hB10.b b9_3
 refine hK10 _ _ ?_
 have k10_2 := kt hg10 2 k9_2
 have k10_4 := kt hg10 4 k9_4
 have k10_5 := kt hg10 5 k9_5
 have k10_12 := kt hg10 12 k9_12
 have k10_13 := kt hg10 13 k9_13
 have k10_7 := kt hg10 7 k9_7
 have k10_26 := kt hg10 26 k9_26
 have k10_27 := kt hg10 27 k9_27
 have k10_14 := kt hg10 14 k9_14
 have k10_15 := kt hg10 15 (hB10.is 0)
 refine wp_seq_k fun K11 hK11 => ?_
 refine wp_cond_false ((fr_eval rfl).trans k10_15) ?_
 refine wp_exit ?_
 refine then_exit ?_
 refine then_exit ?_
 refine inBlock_at ?_
 refine hK3 _ _ ?_
 refine wp_seq_k fun K13 hK13 => ?_
 refine region_dk 1 [(29, 0)] [[], [0]] (rel [is (.agg #[.slice (some ⟨tx, ux, none⟩) (3) (cx), .slice (some ⟨tf, uf, none⟩) (1) (cf), .slice (some ⟨bp, oP, none⟩) (np) (cp), .slice (some ⟨bq, oq, none⟩) (nq) (cq), .int .i64 FA0.pitch])])
  ⟨is_k, trivial⟩
  ⟨fun f s W c d h j k a => opv rfl rfl (by simp [go_sem, a.e 5 k10_5, cb b10_3 c 0, cb b10_3 c 1, cb b10_3 c 2, cb b10_3 c 3, cb b10_3 c 4]) rfl, trivial⟩ ?_
 intro f11 s11 W11 hB11 g11 hg11
 have fB11 := hB11.f fB10
 have z11 := hB11.below.size
 have b11_0 := hB11.b b10_0
 have b11_1 := hB11.b b10_1
 have b11_2 := hB11.b b10_2
 have b11_3 := hB11.b b10_3
 have k11_4 := kt hg11 4 k10_4
 have k11_29 := kt hg11 29 (hB11.is 0)
 obtain ⟨W12, hW12⟩ : ∃ W', W' = W11.setRow (s1 2) #[.slice (some ⟨tx, ux, none⟩) (3) (cx), .slice (some ⟨tf, uf, none⟩) (1) (cf), .slice (some ⟨bp, oP, none⟩) (np) (cp), .slice (some ⟨bq, oq, none⟩) (nq) (cq), .int .i64 FA0.pitch] := ⟨_, rfl⟩
 refine tail_skip (o := _) rfl ⟨rfl, rfl⟩ (run_seg hW12 (fr_ev k11_4) (fr_ev k11_29) b11_2 rfl rfl rfl rfl) ?_
 obtain ⟨fB12, nb12, ot12, z12⟩ := seg_facts hW12 fB11 b11_2 (by omega)
 clear hW12
 have b12_0 := ot12 _ _ (by omega) b11_0
 have b12_1 := ot12 _ _ (by omega) b11_1
 have b12_3 := ot12 _ _ (by omega) b11_3
 refine wpOps_end ?_
 refine hK13 _ _ ?_
 refine wp_ret ?_
 refine leave_gen (v := .agg #[.slice (some ⟨tx, ux, none⟩) (3) (cx), .slice (some ⟨tf, uf, none⟩) (1) (cf), .slice (some ⟨bp, oP, none⟩) (np) (cp), .slice (some ⟨bq, oq, none⟩) (nq) (cq), .int .i64 FA0.pitch]) (.inr rfl) (by simp [results, Try.results37, go_sem, frv 30 k11_4, cl nb12 0, cl nb12 1, cl nb12 2, cl nb12 3, cl nb12 4]) ?_
 exact ⟨by rw [← hwh], fB12⟩
set_option maxRecDepth 100000 in
set_option maxHeartbeats 4000000 in
theorem newSheet_1 (ps : Nat → Pa) (qs : Nat → Fu) (bp oP np cp bq oq nq cq : Nat) (tx ux cx tf uf cf pa0 pa1 pa2 fa0 : Nat) (PA0 PA1 PA2 : Pa) (FA0 : Fu) (wh : Int) (w : World) (hP : PaR w bp oP np ps) (hQ : FuR w bq oq nq qs) (hpi : ∀ i, i < np → PaIn (ps i)) (hqi : ∀ i, i < nq → FuIn (qs i)) (np1 : 1 ≤ np) (np8 : np ≤ 8) (nq1 : 1 ≤ nq) (nq4 : nq ≤ 4) (hX : Ii w (some ⟨tx, ux, none⟩) 3 cx [(pa0 : Int), (pa1 : Int), (pa2 : Int)]) (hF : Ii w (some ⟨tf, uf, none⟩) 1 cf [(fa0 : Int)]) (hpa0 : pa0 < np) (epa0 : ps pa0 = PA0) (hpa1 : pa1 < np) (epa1 : ps pa1 = PA1) (hpa2 : pa2 < np) (epa2 : ps pa2 = PA2) (hfa0 : fa0 < nq) (efa0 : qs fa0 = FA0) (hk0 : PA0.kind = 1) (hk1 : PA1.kind = 2) (hk2 : PA2.kind = 1) (hwh : FA0.pitch = wh) (gwh : 0 ≤ wh ∧ wh ≤ 100000000) (gw1 : 0 ≤ FA0.pitch ∧ FA0.pitch ≤ 10000) :
  Calls Try.prog 23 #[.agg #[.slice (some ⟨bp, oP, none⟩) (np) (cp), .slice (some ⟨bq, oq, none⟩) (nq) (cq)], .agg #[.slice (some ⟨tx, ux, none⟩) (3) (cx), .slice (some ⟨tf, uf, none⟩) (1) (cf)]] w (fun e w' => e = .returned (.tuple #[.agg #[.slice (some ⟨tx, ux, none⟩) (3) (cx), .slice (some ⟨tf, uf, none⟩) (1) (cf), .slice (some ⟨bp, oP, none⟩) (np) (cp), .slice (some ⟨bq, oq, none⟩) (nq) (cq), .int .i64 wh], .int .i64 0]) ∧ Below w.heap.size w w') := by
 refine calls_fr Try.func23 Try.ntmps23 rfl rfl fun g hg => ?_
 have k0 : g 0 = .agg #[.slice (some ⟨bp, oP, none⟩) (np) (cp), .slice (some ⟨bq, oq, none⟩) (nq) (cq)] := hg 0
 have k1 : g 1 = .agg #[.slice (some ⟨tx, ux, none⟩) (3) (cx), .slice (some ⟨tf, uf, none⟩) (1) (cf)] := hg 1
 clear hg
 have fB0 : Below w.heap.size w w := Below.refl _ _
 refine wp_seq_k fun K1 hK1 => ?_
 refine region_dk 4 [(2, 0), (3, 1), (4, 2), (5, 3)] [[], [], [], []] (rel [bx 0 #[.slice (some ⟨bp, oP, none⟩) (np) (cp), .slice (some ⟨bq, oq, none⟩) (nq) (cq)] 33,
   bx 1 #[.slice (some ⟨tx, ux, none⟩) (3) (cx), .slice (some ⟨tf, uf, none⟩) (1) (cf)] 46,
   bx 2 #[.slice (none) (0) (0), .slice (none) (0) (0), .slice (none) (0) (0), .slice (none) (0) (0), .int .i64 0] 72,
   is (.int .i64 0)])
  ⟨bx_k, bx_k, bx_k, is_k, trivial⟩
  ⟨fun f s W c d h j k a => opb rfl rfl (by simp [go_sem, a.e 0 k0]),
  fun f s W c d h j k a => opb rfl rfl (by simp [go_sem, a.e 1 k1]),
  fun f s W c d h j k a => opb rfl rfl (by simp [go_sem]),
  fun f s W c d h j k a => opv rfl rfl (by simp [go_sem]) rfl, trivial⟩ ?_
 intro f1 s1 W1 hB1 g1 hg1
 have fB1 := hB1.f fB0
 have z1 := hB1.below.size
 obtain ⟨r1_0, br1_0⟩ := hB1.is 0
 have lr1_0 := hB1.lr 0 br1_0
 obtain ⟨r1_1, br1_1⟩ := hB1.is 1
 have lr1_1 := hB1.lr 1 br1_1
 obtain ⟨r1_2, br1_2⟩ := hB1.is 2
 have lr1_2 := hB1.lr 2 br1_2
 have ne1_0_1 := hB1.nb 0 1
 have ne1_0_2 := hB1.nb 0 2
 have ne1_1_2 := hB1.nb 1 2
 refine hK1 _ _ ?_
 have k1_2 := kt hg1 2 r1_0
 have k1_3 := kt hg1 3 r1_1
 have k1_4 := kt hg1 4 r1_2
 have k1_5 := kt hg1 5 (hB1.is 3)
 refine wp_seq_k fun K2 hK2 => ?_
 refine wp_seq_k fun K3 hK3 => ?_
 refine region_dk 4 [(7, 0), (8, 1), (9, 2), (6, 3)] [[], [], [0, 1], [0, 1, 2]] (rel [is (.agg #[.slice (some ⟨bp, oP, none⟩) (np) (cp), .slice (some ⟨bq, oq, none⟩) (nq) (cq)]),
   is (.agg #[.slice (some ⟨tx, ux, none⟩) (3) (cx), .slice (some ⟨tf, uf, none⟩) (1) (cf)]),
   is (.int .i64 0),
   is (.int .i64 0)])
  ⟨is_k, is_k, is_k, is_k, trivial⟩
  ⟨fun f s W c d h j k a => opv rfl rfl (by simp [go_sem, a.e 2 k1_2, cb br1_0 c 0, cb br1_0 c 1]) rfl,
  fun f s W c d h j k a => opv rfl rfl (by simp [go_sem, a.e 3 k1_3, cb br1_1 c 0, cb br1_1 c 1]) rfl,
  fun f s W c d h j k a => by have l := below_trans fB1 c; exact opc rfl rfl (by simp [go_sem, a.e 7 (d 0 rfl), a.e 8 (d 1 rfl)]) (made_1 ps qs bp oP np cp bq oq nq cq tx ux cx tf uf cf pa0 pa1 pa2 fa0 PA0 PA1 PA2 FA0 W (hP.below l) (hQ.below l) hpi hqi np1 np8 nq1 nq4 (hX.below l (Nat.le_refl _)) (hF.below l (Nat.le_refl _)) hpa0 epa0 hpa1 epa1 hpa2 epa2 hfa0 efa0 hk0 hk1 hk2),
  fun f s W c d h j k a => opv rfl rfl (by simp [go_sem, a.e 9 (d 2 rfl)]) rfl, trivial⟩ ?_
 intro f2 s2 W2 hB2 g2 hg2
 have fB2 := hB2.f fB1
 have z2 := hB2.below.size
 have b2_0 := hB2.b br1_0
 have b2_1 := hB2.b br1_1
 have b2_2 := hB2.b br1_2
 refine hK3 _ _ ?_
 have k2_2 := kt hg2 2 k1_2
 have k2_3 := kt hg2 3 k1_3
 have k2_4 := kt hg2 4 k1_4
 have k2_5 := kt hg2 5 k1_5
 have k2_6 := kt hg2 6 (hB2.is 3)
 refine wp_seq_k fun K4 hK4 => ?_
 refine region_dk 2 [(10, 0), (11, 1)] [[], [0]] (rel [is (.int .i64 0),
   is (.bool false)])
  ⟨is_k, is_k, trivial⟩
  ⟨fun f s W c d h j k a => opv rfl rfl (by simp [go_sem, a.e 6 k2_6]) rfl,
  fun f s W c d h j k a => opv rfl rfl (by simp [go_sem, a.e 10 (d 0 rfl)]) rfl, trivial⟩ ?_
 intro f3 s3 W3 hB3 g3 hg3
 have fB3 := hB3.f fB2
 have z3 := hB3.below.size
 have b3_0 := hB3.b b2_0
 have b3_1 := hB3.b b2_1
 have b3_2 := hB3.b b2_2
 refine hK4 _ _ ?_
 have k3_2 := kt hg3 2 k2_2
 have k3_3 := kt hg3 3 k2_3
 have k3_4 := kt hg3 4 k2_4
 have k3_5 := kt hg3 5 k2_5
 have k3_6 := kt hg3 6 k2_6
 have k3_11 := kt hg3 11 (hB3.is 1)
 refine wp_cond_false ((fr_eval rfl).trans k3_11) ?_
 refine wp_skip ?_
 refine hK2 _ _ ?_
 refine wp_seq_k fun K6 hK6 => ?_
 refine region_dk 3 [(14, 0), (15, 1), (16, 2), (5, 4)] [[], [], [0, 1], [0, 1, 2], [0, 1, 2, 3]] (rel [is (.agg #[.slice (some ⟨bp, oP, none⟩) (np) (cp), .slice (some ⟨bq, oq, none⟩) (nq) (cq)]),
   is (.agg #[.slice (some ⟨tx, ux, none⟩) (3) (cx), .slice (some ⟨tf, uf, none⟩) (1) (cf)]),
   is (.agg #[.slice (some ⟨tx, ux, none⟩) (3) (cx), .slice (some ⟨tf, uf, none⟩) (1) (cf), .slice (some ⟨bp, oP, none⟩) (np) (cp), .slice (some ⟨bq, oq, none⟩) (nq) (cq), .int .i64 wh])])
  ⟨is_k, is_k, is_k, trivial⟩
  ⟨fun f s W c d h j k a => opv rfl rfl (by simp [go_sem, a.e 2 k3_2, cb b3_0 c 0, cb b3_0 c 1]) rfl,
  fun f s W c d h j k a => opv rfl rfl (by simp [go_sem, a.e 3 k3_3, cb b3_1 c 0, cb b3_1 c 1]) rfl,
  fun f s W c d h j k a => by have l := below_trans fB3 c; exact opc rfl rfl (by simp [go_sem, a.e 14 (d 0 rfl), a.e 15 (d 1 rfl)]) (sheetOf_1 ps qs bp oP np cp bq oq nq cq tx ux cx tf uf cf pa0 pa1 pa2 fa0 PA0 PA1 PA2 FA0 wh W (hP.below l) (hQ.below l) hpi hqi np1 np8 nq1 nq4 (hX.below l (Nat.le_refl _)) (hF.below l (Nat.le_refl _)) hpa0 epa0 hpa1 epa1 hpa2 epa2 hfa0 efa0 hk0 hk1 hk2 hwh gwh gw1), trivial⟩ ?_
 intro f4 s4 W4 hB4 g4 hg4
 have fB4 := hB4.f fB3
 have z4 := hB4.below.size
 have b4_0 := hB4.b b3_0
 have b4_1 := hB4.b b3_1
 have b4_2 := hB4.b b3_2
 have k4_4 := kt hg4 4 k3_4
 have k4_16 := kt hg4 16 (hB4.is 2)
 obtain ⟨W5, hW5⟩ : ∃ W', W' = W4.setRow (s1 2) #[.slice (some ⟨tx, ux, none⟩) (3) (cx), .slice (some ⟨tf, uf, none⟩) (1) (cf), .slice (some ⟨bp, oP, none⟩) (np) (cp), .slice (some ⟨bq, oq, none⟩) (nq) (cq), .int .i64 wh] := ⟨_, rfl⟩
 refine tail_skip (o := _) rfl ⟨rfl, rfl⟩ (run_seg hW5 (fr_ev k4_4) (fr_ev k4_16) b4_2 rfl rfl rfl rfl) ?_
 obtain ⟨fB5, nb5, ot5, z5⟩ := seg_facts hW5 fB4 b4_2 (by omega)
 clear hW5
 have b5_0 := ot5 _ _ (by omega) b4_0
 have b5_1 := ot5 _ _ (by omega) b4_1
 refine tail_value (o := _) rfl rfl rfl (v := .int .i64 0) (by simp [go_sem]) ?_
 generalize hg6 : upd g4 5 (.int .i64 0) = g6
 have k6_4 := ku hg6 4 k4_4
 have k6_5 := kt hg6 5 (upd_same _ _ _)
 refine wpOps_end ?_
 refine hK6 _ _ ?_
 refine wp_ret ?_
 refine leave_gen (v := .tuple #[.agg #[.slice (some ⟨tx, ux, none⟩) (3) (cx), .slice (some ⟨tf, uf, none⟩) (1) (cf), .slice (some ⟨bp, oP, none⟩) (np) (cp), .slice (some ⟨bq, oq, none⟩) (nq) (cq), .int .i64 wh], .int .i64 0]) (.inr rfl) (by simp [results, Try.results23, go_sem, frv 17 k6_4, cl nb5 0, cl nb5 1, cl nb5 2, cl nb5 3, cl nb5 4, frv 17 k6_5]) ?_
 exact ⟨rfl, fB5⟩
set_option maxRecDepth 100000 in
set_option maxHeartbeats 8000000 in
theorem caliper_1_1 (ps : Nat → Pa) (qs : Nat → Fu) (bp oP np cp bq oq nq cq : Nat) (tx ux cx tf uf cf pa0 pa1 pa2 fa0 : Nat) (PA0 PA1 PA2 : Pa) (FA0 : Fu) (wh : Int) (w : World) (hP : PaR w bp oP np ps) (hQ : FuR w bq oq nq qs) (hpi : ∀ i, i < np → PaIn (ps i)) (hqi : ∀ i, i < nq → FuIn (qs i)) (np1 : 1 ≤ np) (np8 : np ≤ 8) (nq1 : 1 ≤ nq) (nq4 : nq ≤ 4) (hX : Ii w (some ⟨tx, ux, none⟩) 3 cx [(pa0 : Int), (pa1 : Int), (pa2 : Int)]) (hF : Ii w (some ⟨tf, uf, none⟩) 1 cf [(fa0 : Int)]) (hpa0 : pa0 < np) (epa0 : ps pa0 = PA0) (hpa1 : pa1 < np) (epa1 : ps pa1 = PA1) (hpa2 : pa2 < np) (epa2 : ps pa2 = PA2) (hfa0 : fa0 < nq) (efa0 : qs fa0 = FA0) (hk0 : PA0.kind = 1) (hk1 : PA1.kind = 2) (hk2 : PA2.kind = 1) (hwh : FA0.pitch = wh) (gwh : 0 ≤ wh ∧ wh ≤ 100000000) (gw1 : 0 ≤ FA0.pitch ∧ FA0.pitch ≤ 10000) :
  Calls Try.prog 41 #[.agg #[.slice (some ⟨tx, ux, none⟩) (3) (cx), .slice (some ⟨tf, uf, none⟩) (1) (cf), .slice (some ⟨bp, oP, none⟩) (np) (cp), .slice (some ⟨bq, oq, none⟩) (nq) (cq), .int .i64 wh], .func (.func 38) #[] #[]] w (fun e w' => e = .returned (.int .i64 ((PA0.t1 + PA2.t1) + FA0.h1)) ∧ Below w.heap.size w w') := by
 have gi0 := (epa0 ▸ hpi pa0 hpa0 : PaIn PA0).thick
 have gi1 := (epa1 ▸ hpi pa1 hpa1 : PaIn PA1).thick
 have gi2 := (epa2 ▸ hpi pa2 hpa2 : PaIn PA2).thick
 have gj0 := (efa0 ▸ hqi fa0 hfa0 : FuIn FA0).high
 refine calls_fr Try.func41 Try.ntmps41 rfl rfl fun g hg => ?_
 have k0 : g 0 = .agg #[.slice (some ⟨tx, ux, none⟩) (3) (cx), .slice (some ⟨tf, uf, none⟩) (1) (cf), .slice (some ⟨bp, oP, none⟩) (np) (cp), .slice (some ⟨bq, oq, none⟩) (nq) (cq), .int .i64 wh] := hg 0
 have k1 : g 1 = .func (.func 38) #[] #[] := hg 1
 clear hg
 have fB0 : Below w.heap.size w w := Below.refl _ _
 refine wp_seq_k fun K1 hK1 => ?_
 refine region_dk 2 [(2, 0), (4, 1)] [[], []] (rel [bx 0 #[.slice (some ⟨tx, ux, none⟩) (3) (cx), .slice (some ⟨tf, uf, none⟩) (1) (cf), .slice (some ⟨bp, oP, none⟩) (np) (cp), .slice (some ⟨bq, oq, none⟩) (nq) (cq), .int .i64 wh] 72,
   is (.int .i64 0)])
  ⟨bx_k, is_k, trivial⟩
  ⟨fun f s W c d h j k a => opb rfl rfl (by simp [go_sem, a.e 0 k0]),
  fun f s W c d h j k a => opv rfl rfl (by simp [go_sem]) rfl, trivial⟩ ?_
 intro f1 s1 W1 hB1 g1 hg1
 have fB1 := hB1.f fB0
 have z1 := hB1.below.size
 obtain ⟨r1_0, br1_0⟩ := hB1.is 0
 have lr1_0 := hB1.lr 0 br1_0
 refine hK1 _ _ ?_
 have k1_1 := kt hg1 1 k1
 have k1_2 := kt hg1 2 r1_0
 have k1_4 := kt hg1 4 (hB1.is 1)
 refine wp_seq_k fun K2 hK2 => ?_
 refine wp_seq_k fun K3 hK3 => ?_
 refine region_dk 5 [(9, 0), (10, 1), (11, 2), (12, 3), (13, 4)] [[], [0], [0, 1], [0, 1, 2], []] (rel [is (.pointer (some ⟨(s1 0), 0, none⟩)),
   is (.pointer (some ⟨(s1 0), 0, none⟩)),
   is (.slice (some ⟨tx, ux, none⟩) (3) (cx)),
   is (.int .i64 3),
   is (.int .i64 0)])
  ⟨is_k, is_k, is_k, is_k, is_k, trivial⟩
  ⟨fun f s W c d h j k a => opv rfl rfl (by simp [go_sem, a.e 2 k1_2]) rfl,
  fun f s W c d h j k a => opv rfl rfl (by simp [go_sem, a.e 9 (d 0 rfl)]) rfl,
  fun f s W c d h j k a => opv rfl rfl (by simp [go_sem, a.e 10 (d 1 rfl), cb br1_0 c 0]) rfl,
  fun f s W c d h j k a => opv rfl rfl (by simp [go_sem, a.e 11 (d 2 rfl)]) rfl,
  fun f s W c d h j k a => opv rfl rfl (by simp [go_sem]) rfl, trivial⟩ ?_
 intro f2 s2 W2 hB2 g2 hg2
 have fB2 := hB2.f fB1
 have z2 := hB2.below.size
 have b2_0 := hB2.b br1_0
 refine hK3 _ _ ?_
 have k2_1 := kt hg2 1 k1_1
 have k2_2 := kt hg2 2 k1_2
 have k2_4 := kt hg2 4 k1_4
 have k2_11 := kt hg2 11 (hB2.is 2)
 have k2_12 := kt hg2 12 (hB2.is 3)
 have k2_13 := kt hg2 13 (hB2.is 4)
 refine wp_block ?_
 refine wp_loop_rounds 4 ?_
 rw [rounds_succ]
 refine wp_seq_k fun K4 hK4 => ?_
 refine region_dk 1 [(14, 0)] [[]] (rel [is (.bool true)])
  ⟨is_k, trivial⟩
  ⟨fun f s W c d h j k a => opv rfl rfl (by simp [go_sem, a.e 13 k2_13, a.e 12 k2_12]) rfl, trivial⟩ ?_
 intro f3 s3 W3 hB3 g3 hg3
 have fB3 := hB3.f fB2
 have z3 := hB3.below.size
 have b3_0 := hB3.b b2_0
 refine hK4 _ _ ?_
 have k3_1 := kt hg3 1 k2_1
 have k3_2 := kt hg3 2 k2_2
 have k3_4 := kt hg3 4 k2_4
 have k3_11 := kt hg3 11 k2_11
 have k3_12 := kt hg3 12 k2_12
 have k3_13 := kt hg3 13 k2_13
 have k3_14 := kt hg3 14 (hB3.is 0)
 refine wp_seq_k fun K5 hK5 => ?_
 refine wp_cond_true ((fr_eval rfl).trans k3_14) ?_
 refine wp_skip ?_
 refine hK5 _ _ ?_
 refine wp_seq_k fun K7 hK7 => ?_
 refine wp_block ?_
 refine wp_seq_k fun K8 hK8 => ?_
 refine region_dk 5 [(15, 0), (16, 1), (17, 2), (5, 3), (6, 4)] [[], [], [1], [0, 1, 2], [0, 1, 2, 3]] (rel [is (.int .i64 0),
   is (.pointer (some ⟨tx, ux, none⟩)),
   is (.int .i64 ((pa0 : Int))),
   is (.int .i64 0),
   is (.int .i64 ((pa0 : Int)))])
  ⟨is_k, is_k, is_k, is_k, is_k, trivial⟩
  ⟨fun f s W c d h j k a => opv rfl rfl (by simp [go_sem, a.e 13 k3_13]) rfl,
  fun f s W c d h j k a => opv rfl rfl (by simp [go_sem, a.e 11 k3_11, a.e 13 k3_13]) rfl,
  fun f s W c d h j k a => by have l := below_trans fB3 c; have cu : W.cell? ⟨tx, ux, none⟩ = some (.int .i64 (pa0 : Int)) := ii_cell (hX.below l (Nat.le_refl _)) 0 (by simp); exact opv rfl rfl (by simp [go_sem, a.e 16 (d 1 rfl), cu]) rfl,
  fun f s W c d h j k a => opv rfl rfl (by simp [go_sem, a.e 15 (d 0 rfl)]) rfl,
  fun f s W c d h j k a => opv rfl rfl (by simp [go_sem, a.e 17 (d 2 rfl)]) rfl, trivial⟩ ?_
 intro f4 s4 W4 hB4 g4 hg4
 have fB4 := hB4.f fB3
 have z4 := hB4.below.size
 have b4_0 := hB4.b b3_0
 refine hK8 _ _ ?_
 have k4_1 := kt hg4 1 k3_1
 have k4_2 := kt hg4 2 k3_2
 have k4_4 := kt hg4 4 k3_4
 have k4_11 := kt hg4 11 k3_11
 have k4_12 := kt hg4 12 k3_12
 have k4_13 := kt hg4 13 k3_13
 have k4_14 := kt hg4 14 k3_14
 have k4_5 := kt hg4 5 (hB4.is 3)
 have k4_6 := kt hg4 6 (hB4.is 4)
 refine wp_seq_k fun K9 hK9 => ?_
 refine region_dk 3 [(18, 0), (19, 1), (20, 2)] [[], [0], [0, 1]] (rel [is (.int .i64 0),
   is (.int .i64 0),
   is (.bool true)])
  ⟨is_k, is_k, is_k, trivial⟩
  ⟨fun f s W c d h j k a => opv rfl rfl (by simp [go_sem, a.e 5 k4_5]) rfl,
  fun f s W c d h j k a => by have qw_ := IntWalk.i64_in (0) (by decide); exact opv rfl rfl (by simp [go_sem, a.e 18 (d 0 rfl), qw_]) rfl,
  fun f s W c d h j k a => opv rfl rfl (by simp [go_sem, a.e 19 (d 1 rfl)]) rfl, trivial⟩ ?_
 intro f5 s5 W5 hB5 g5 hg5
 have fB5 := hB5.f fB4
 have z5 := hB5.below.size
 have b5_0 := hB5.b b4_0
 refine hK9 _ _ ?_
 have k5_1 := kt hg5 1 k4_1
 have k5_2 := kt hg5 2 k4_2
 have k5_4 := kt hg5 4 k4_4
 have k5_11 := kt hg5 11 k4_11
 have k5_12 := kt hg5 12 k4_12
 have k5_13 := kt hg5 13 k4_13
 have k5_14 := kt hg5 14 k4_14
 have k5_5 := kt hg5 5 k4_5
 have k5_6 := kt hg5 6 k4_6
 have k5_20 := kt hg5 20 (hB5.is 2)
 refine wp_cond_true ((fr_eval rfl).trans k5_20) ?_
 refine region_dk 12 [(21, 0), (22, 1), (23, 2), (24, 3), (25, 4), (26, 5), (27, 6), (28, 7), (29, 8), (30, 9), (31, 10), (4, 11)] [[], [], [], [2], [2, 3], [], [2, 3, 4, 5], [2, 3, 4, 5, 6], [2, 3, 4, 5, 6, 7], [1, 2, 3, 4, 5, 6, 7, 8], [0, 1, 2, 3, 4, 5, 6, 7, 8, 9], [0, 1, 2, 3, 4, 5, 6, 7, 8, 9, 10]] (rel [is (.int .i64 0),
   is (.func (.func 38) #[] #[]),
   is (.pointer (some ⟨(s1 0), 2, none⟩)),
   is (.pointer (some ⟨(s1 0), 2, none⟩)),
   is (.slice (some ⟨bp, oP, none⟩) (np) (cp)),
   is (.int .i64 ((pa0 : Int))),
   is (.pointer (some ⟨bp, oP + pa0 * 8, none⟩)),
   is (.pointer (some ⟨bp, oP + pa0 * 8 + 2, none⟩)),
   is (.agg #[.int .i64 PA0.t1, .int .i64 PA0.t2]),
   is (.int .i64 PA0.t1),
   is (.int .i64 PA0.t1),
   is (.int .i64 PA0.t1)])
  ⟨is_k, is_k, is_k, is_k, is_k, is_k, is_k, is_k, is_k, is_k, is_k, is_k, trivial⟩
  ⟨fun f s W c d h j k a => opv rfl rfl (by simp [go_sem, a.e 4 ((j 11 4 rfl rfl).trans k5_4)]) rfl,
  fun f s W c d h j k a => opv rfl rfl (by simp [go_sem, a.e 1 k5_1]) rfl,
  fun f s W c d h j k a => opv rfl rfl (by simp [go_sem, a.e 2 k5_2]) rfl,
  fun f s W c d h j k a => opv rfl rfl (by simp [go_sem, a.e 23 (d 2 rfl)]) rfl,
  fun f s W c d h j k a => opv rfl rfl (by simp [go_sem, a.e 24 (d 3 rfl), cb b5_0 c 2]) rfl,
  fun f s W c d h j k a => opv rfl rfl (by simp [go_sem, a.e 6 k5_6]) rfl,
  fun f s W c d h j k a => by have li_ := Nat.not_le.2 hpa0; have lz_ : (pa0 : Int) < (np : Int) := (by omega); exact opv rfl rfl (by simp [go_sem, a.e 25 (d 4 rfl), a.e 26 (d 5 rfl), li_, hpa0, lz_]) rfl,
  fun f s W c d h j k a => opv rfl rfl (by simp [go_sem, a.e 27 (d 6 rfl)]) rfl,
  fun f s W c d h j k a => by have l := below_trans fB5 c; have E_ := (hP.below l).2 pa0 hpa0; rw [epa0] at E_; obtain ⟨u0_, u1_, u2_, u3_, u4_, u5_, u6_, u7_⟩ := E_; have v0_ : W.cell? ⟨bp, oP + pa0 * 8 + 2, none⟩ = some (.int .i64 PA0.t1) := u2_; have v1_ : W.cell? ⟨bp, oP + pa0 * 8 + 2 + 1, none⟩ = some (.int .i64 PA0.t2) := u3_; exact opv rfl rfl (by simp [go_sem, a.e 28 (d 7 rfl), v0_, v1_]) rfl,
  fun f s W c d h j k a => opc rfl rfl (by simp [go_sem, a.e 29 (d 8 rfl), a.e 22 (d 1 rfl)]) (low_ok (PA0.t1) (PA0.t2) W),
  fun f s W c d h j k a => opv rfl rfl (by simp [go_sem, a.e 21 (d 0 rfl), a.e 30 (d 9 rfl), IntWalk.i64_in (PA0.t1) (by omega)]) rfl,
  fun f s W c d h j k a => opv rfl rfl (by simp [go_sem, a.e 31 (d 10 rfl)]) rfl, trivial⟩ ?_
 intro f6 s6 W6 hB6 g6 hg6
 have fB6 := hB6.f fB5
 have z6 := hB6.below.size
 have b6_0 := hB6.b b5_0
 refine wpOps_end ?_
 have k6_1 := kt hg6 1 k5_1
 have k6_2 := kt hg6 2 k5_2
 have k6_11 := kt hg6 11 k5_11
 have k6_12 := kt hg6 12 k5_12
 have k6_13 := kt hg6 13 k5_13
 have k6_14 := kt hg6 14 k5_14
 have k6_5 := kt hg6 5 k5_5
 have k6_6 := kt hg6 6 k5_6
 have k6_20 := kt hg6 20 k5_20
 have k6_4 := kt hg6 4 (hB6.is 11)
 refine inBlock_normal ?_
 refine hK7 _ _ ?_
 refine region_dk 2 [(32, 0), (13, 1)] [[], [0]] (rel [is (.int .i64 1),
   is (.int .i64 1)])
  ⟨is_k, is_k, trivial⟩
  ⟨fun f s W c d h j k a => opv rfl rfl (by simp [go_sem, a.e 13 ((j 1 13 rfl rfl).trans k6_13), IntWalk.i64_in (1) (by omega)]) rfl,
  fun f s W c d h j k a => opv rfl rfl (by simp [go_sem, a.e 32 (d 0 rfl)]) rfl, trivial⟩ ?_
 intro f7 s7 W7 hB7 g7 hg7
 have fB7 := hB7.f fB6
 have z7 := hB7.below.size
 have b7_0 := hB7.b b6_0
 refine wpOps_end ?_
 have k7_1 := kt hg7 1 k6_1
 have k7_2 := kt hg7 2 k6_2
 have k7_11 := kt hg7 11 k6_11
 have k7_12 := kt hg7 12 k6_12
 have k7_14 := kt hg7 14 k6_14
 have k7_5 := kt hg7 5 k6_5
 have k7_6 := kt hg7 6 k6_6
 have k7_20 := kt hg7 20 k6_20
 have k7_4 := kt hg7 4 k6_4
 have k7_13 := kt hg7 13 (hB7.is 1)
 refine then_normal ?_
 rw [rounds_succ]
 refine wp_seq_k fun K11 hK11 => ?_
 refine region_dk 1 [(14, 0)] [[]] (rel [is (.bool true)])
  ⟨is_k, trivial⟩
  ⟨fun f s W c d h j k a => opv rfl rfl (by simp [go_sem, a.e 13 k7_13, a.e 12 k7_12]) rfl, trivial⟩ ?_
 intro f8 s8 W8 hB8 g8 hg8
 have fB8 := hB8.f fB7
 have z8 := hB8.below.size
 have b8_0 := hB8.b b7_0
 refine hK11 _ _ ?_
 have k8_1 := kt hg8 1 k7_1
 have k8_2 := kt hg8 2 k7_2
 have k8_11 := kt hg8 11 k7_11
 have k8_12 := kt hg8 12 k7_12
 have k8_5 := kt hg8 5 k7_5
 have k8_6 := kt hg8 6 k7_6
 have k8_20 := kt hg8 20 k7_20
 have k8_4 := kt hg8 4 k7_4
 have k8_13 := kt hg8 13 k7_13
 have k8_14 := kt hg8 14 (hB8.is 0)
 refine wp_seq_k fun K12 hK12 => ?_
 refine wp_cond_true ((fr_eval rfl).trans k8_14) ?_
 refine wp_skip ?_
 refine hK12 _ _ ?_
 refine wp_seq_k fun K14 hK14 => ?_
 refine wp_block ?_
 refine wp_seq_k fun K15 hK15 => ?_
 refine region_dk 5 [(15, 0), (16, 1), (17, 2), (5, 3), (6, 4)] [[], [], [1], [0, 1, 2], [0, 1, 2, 3]] (rel [is (.int .i64 1),
   is (.pointer (some ⟨tx, ux + 1, none⟩)),
   is (.int .i64 ((pa1 : Int))),
   is (.int .i64 1),
   is (.int .i64 ((pa1 : Int)))])
  ⟨is_k, is_k, is_k, is_k, is_k, trivial⟩
  ⟨fun f s W c d h j k a => opv rfl rfl (by simp [go_sem, a.e 13 k8_13]) rfl,
  fun f s W c d h j k a => opv rfl rfl (by simp [go_sem, a.e 11 k8_11, a.e 13 k8_13]) rfl,
  fun f s W c d h j k a => by have l := below_trans fB8 c; have cu : W.cell? ⟨tx, ux + 1, none⟩ = some (.int .i64 (pa1 : Int)) := ii_cell (hX.below l (Nat.le_refl _)) 1 (by simp); exact opv rfl rfl (by simp [go_sem, a.e 16 (d 1 rfl), cu]) rfl,
  fun f s W c d h j k a => opv rfl rfl (by simp [go_sem, a.e 15 (d 0 rfl)]) rfl,
  fun f s W c d h j k a => opv rfl rfl (by simp [go_sem, a.e 17 (d 2 rfl)]) rfl, trivial⟩ ?_
 intro f9 s9 W9 hB9 g9 hg9
 have fB9 := hB9.f fB8
 have z9 := hB9.below.size
 have b9_0 := hB9.b b8_0
 refine hK15 _ _ ?_
 have k9_1 := kt hg9 1 k8_1
 have k9_2 := kt hg9 2 k8_2
 have k9_11 := kt hg9 11 k8_11
 have k9_12 := kt hg9 12 k8_12
 have k9_20 := kt hg9 20 k8_20
 have k9_4 := kt hg9 4 k8_4
 have k9_13 := kt hg9 13 k8_13
 have k9_14 := kt hg9 14 k8_14
 have k9_5 := kt hg9 5 (hB9.is 3)
 have k9_6 := kt hg9 6 (hB9.is 4)
 refine wp_seq_k fun K16 hK16 => ?_
 refine region_dk 3 [(18, 0), (19, 1), (20, 2)] [[], [0], [0, 1]] (rel [is (.int .i64 1),
   is (.int .i64 1),
   is (.bool false)])
  ⟨is_k, is_k, is_k, trivial⟩
  ⟨fun f s W c d h j k a => opv rfl rfl (by simp [go_sem, a.e 5 k9_5]) rfl,
  fun f s W c d h j k a => by have qw_ := IntWalk.i64_in (1) (by decide); exact opv rfl rfl (by simp [go_sem, a.e 18 (d 0 rfl), qw_]) rfl,
  fun f s W c d h j k a => opv rfl rfl (by simp [go_sem, a.e 19 (d 1 rfl)]) rfl, trivial⟩ ?_
 intro f10 s10 W10 hB10 g10 hg10
 have fB10 := hB10.f fB9
 have z10 := hB10.below.size
 have b10_0 := hB10.b b9_0
 refine hK16 _ _ ?_
 have k10_1 := kt hg10 1 k9_1
 have k10_2 := kt hg10 2 k9_2
 have k10_11 := kt hg10 11 k9_11
 have k10_12 := kt hg10 12 k9_12
 have k10_4 := kt hg10 4 k9_4
 have k10_13 := kt hg10 13 k9_13
 have k10_14 := kt hg10 14 k9_14
 have k10_5 := kt hg10 5 k9_5
 have k10_6 := kt hg10 6 k9_6
 have k10_20 := kt hg10 20 (hB10.is 2)
 refine wp_cond_false ((fr_eval rfl).trans k10_20) ?_
 refine wp_skip ?_
 refine inBlock_normal ?_
 refine hK14 _ _ ?_
 refine region_dk 2 [(32, 0), (13, 1)] [[], [0]] (rel [is (.int .i64 2),
   is (.int .i64 2)])
  ⟨is_k, is_k, trivial⟩
  ⟨fun f s W c d h j k a => opv rfl rfl (by simp [go_sem, a.e 13 ((j 1 13 rfl rfl).trans k10_13), IntWalk.i64_in (2) (by omega)]) rfl,
  fun f s W c d h j k a => opv rfl rfl (by simp [go_sem, a.e 32 (d 0 rfl)]) rfl, trivial⟩ ?_
 intro f11 s11 W11 hB11 g11 hg11
 have fB11 := hB11.f fB10
 have z11 := hB11.below.size
 have b11_0 := hB11.b b10_0
 refine wpOps_end ?_
 have k11_1 := kt hg11 1 k10_1
 have k11_2 := kt hg11 2 k10_2
 have k11_11 := kt hg11 11 k10_11
 have k11_12 := kt hg11 12 k10_12
 have k11_4 := kt hg11 4 k10_4
 have k11_14 := kt hg11 14 k10_14
 have k11_5 := kt hg11 5 k10_5
 have k11_6 := kt hg11 6 k10_6
 have k11_20 := kt hg11 20 k10_20
 have k11_13 := kt hg11 13 (hB11.is 1)
 refine then_normal ?_
 rw [rounds_succ]
 refine wp_seq_k fun K18 hK18 => ?_
 refine region_dk 1 [(14, 0)] [[]] (rel [is (.bool true)])
  ⟨is_k, trivial⟩
  ⟨fun f s W c d h j k a => opv rfl rfl (by simp [go_sem, a.e 13 k11_13, a.e 12 k11_12]) rfl, trivial⟩ ?_
 intro f12 s12 W12 hB12 g12 hg12
 have fB12 := hB12.f fB11
 have z12 := hB12.below.size
 have b12_0 := hB12.b b11_0
 refine hK18 _ _ ?_
 have k12_1 := kt hg12 1 k11_1
 have k12_2 := kt hg12 2 k11_2
 have k12_11 := kt hg12 11 k11_11
 have k12_12 := kt hg12 12 k11_12
 have k12_4 := kt hg12 4 k11_4
 have k12_5 := kt hg12 5 k11_5
 have k12_6 := kt hg12 6 k11_6
 have k12_20 := kt hg12 20 k11_20
 have k12_13 := kt hg12 13 k11_13
 have k12_14 := kt hg12 14 (hB12.is 0)
 refine wp_seq_k fun K19 hK19 => ?_
 refine wp_cond_true ((fr_eval rfl).trans k12_14) ?_
 refine wp_skip ?_
 refine hK19 _ _ ?_
 refine wp_seq_k fun K21 hK21 => ?_
 refine wp_block ?_
 refine wp_seq_k fun K22 hK22 => ?_
 refine region_dk 5 [(15, 0), (16, 1), (17, 2), (5, 3), (6, 4)] [[], [], [1], [0, 1, 2], [0, 1, 2, 3]] (rel [is (.int .i64 2),
   is (.pointer (some ⟨tx, ux + 2, none⟩)),
   is (.int .i64 ((pa2 : Int))),
   is (.int .i64 2),
   is (.int .i64 ((pa2 : Int)))])
  ⟨is_k, is_k, is_k, is_k, is_k, trivial⟩
  ⟨fun f s W c d h j k a => opv rfl rfl (by simp [go_sem, a.e 13 k12_13]) rfl,
  fun f s W c d h j k a => opv rfl rfl (by simp [go_sem, a.e 11 k12_11, a.e 13 k12_13]) rfl,
  fun f s W c d h j k a => by have l := below_trans fB12 c; have cu : W.cell? ⟨tx, ux + 2, none⟩ = some (.int .i64 (pa2 : Int)) := ii_cell (hX.below l (Nat.le_refl _)) 2 (by simp); exact opv rfl rfl (by simp [go_sem, a.e 16 (d 1 rfl), cu]) rfl,
  fun f s W c d h j k a => opv rfl rfl (by simp [go_sem, a.e 15 (d 0 rfl)]) rfl,
  fun f s W c d h j k a => opv rfl rfl (by simp [go_sem, a.e 17 (d 2 rfl)]) rfl, trivial⟩ ?_
 intro f13 s13 W13 hB13 g13 hg13
 have fB13 := hB13.f fB12
 have z13 := hB13.below.size
 have b13_0 := hB13.b b12_0
 refine hK22 _ _ ?_
 have k13_1 := kt hg13 1 k12_1
 have k13_2 := kt hg13 2 k12_2
 have k13_11 := kt hg13 11 k12_11
 have k13_12 := kt hg13 12 k12_12
 have k13_4 := kt hg13 4 k12_4
 have k13_20 := kt hg13 20 k12_20
 have k13_13 := kt hg13 13 k12_13
 have k13_14 := kt hg13 14 k12_14
 have k13_5 := kt hg13 5 (hB13.is 3)
 have k13_6 := kt hg13 6 (hB13.is 4)
 refine wp_seq_k fun K23 hK23 => ?_
 refine region_dk 3 [(18, 0), (19, 1), (20, 2)] [[], [0], [0, 1]] (rel [is (.int .i64 2),
   is (.int .i64 0),
   is (.bool true)])
  ⟨is_k, is_k, is_k, trivial⟩
  ⟨fun f s W c d h j k a => opv rfl rfl (by simp [go_sem, a.e 5 k13_5]) rfl,
  fun f s W c d h j k a => by have qw_ := IntWalk.i64_in (0) (by decide); exact opv rfl rfl (by simp [go_sem, a.e 18 (d 0 rfl), qw_]) rfl,
  fun f s W c d h j k a => opv rfl rfl (by simp [go_sem, a.e 19 (d 1 rfl)]) rfl, trivial⟩ ?_
 intro f14 s14 W14 hB14 g14 hg14
 have fB14 := hB14.f fB13
 have z14 := hB14.below.size
 have b14_0 := hB14.b b13_0
 refine hK23 _ _ ?_
 have k14_1 := kt hg14 1 k13_1
 have k14_2 := kt hg14 2 k13_2
 have k14_11 := kt hg14 11 k13_11
 have k14_12 := kt hg14 12 k13_12
 have k14_4 := kt hg14 4 k13_4
 have k14_13 := kt hg14 13 k13_13
 have k14_14 := kt hg14 14 k13_14
 have k14_5 := kt hg14 5 k13_5
 have k14_6 := kt hg14 6 k13_6
 have k14_20 := kt hg14 20 (hB14.is 2)
 refine wp_cond_true ((fr_eval rfl).trans k14_20) ?_
 refine region_dk 12 [(21, 0), (22, 1), (23, 2), (24, 3), (25, 4), (26, 5), (27, 6), (28, 7), (29, 8), (30, 9), (31, 10), (4, 11)] [[], [], [], [2], [2, 3], [], [2, 3, 4, 5], [2, 3, 4, 5, 6], [2, 3, 4, 5, 6, 7], [1, 2, 3, 4, 5, 6, 7, 8], [0, 1, 2, 3, 4, 5, 6, 7, 8, 9], [0, 1, 2, 3, 4, 5, 6, 7, 8, 9, 10]] (rel [is (.int .i64 PA0.t1),
   is (.func (.func 38) #[] #[]),
   is (.pointer (some ⟨(s1 0), 2, none⟩)),
   is (.pointer (some ⟨(s1 0), 2, none⟩)),
   is (.slice (some ⟨bp, oP, none⟩) (np) (cp)),
   is (.int .i64 ((pa2 : Int))),
   is (.pointer (some ⟨bp, oP + pa2 * 8, none⟩)),
   is (.pointer (some ⟨bp, oP + pa2 * 8 + 2, none⟩)),
   is (.agg #[.int .i64 PA2.t1, .int .i64 PA2.t2]),
   is (.int .i64 PA2.t1),
   is (.int .i64 (PA0.t1 + PA2.t1)),
   is (.int .i64 (PA0.t1 + PA2.t1))])
  ⟨is_k, is_k, is_k, is_k, is_k, is_k, is_k, is_k, is_k, is_k, is_k, is_k, trivial⟩
  ⟨fun f s W c d h j k a => opv rfl rfl (by simp [go_sem, a.e 4 ((j 11 4 rfl rfl).trans k14_4)]) rfl,
  fun f s W c d h j k a => opv rfl rfl (by simp [go_sem, a.e 1 k14_1]) rfl,
  fun f s W c d h j k a => opv rfl rfl (by simp [go_sem, a.e 2 k14_2]) rfl,
  fun f s W c d h j k a => opv rfl rfl (by simp [go_sem, a.e 23 (d 2 rfl)]) rfl,
  fun f s W c d h j k a => opv rfl rfl (by simp [go_sem, a.e 24 (d 3 rfl), cb b14_0 c 2]) rfl,
  fun f s W c d h j k a => opv rfl rfl (by simp [go_sem, a.e 6 k14_6]) rfl,
  fun f s W c d h j k a => by have li_ := Nat.not_le.2 hpa2; have lz_ : (pa2 : Int) < (np : Int) := (by omega); exact opv rfl rfl (by simp [go_sem, a.e 25 (d 4 rfl), a.e 26 (d 5 rfl), li_, hpa2, lz_]) rfl,
  fun f s W c d h j k a => opv rfl rfl (by simp [go_sem, a.e 27 (d 6 rfl)]) rfl,
  fun f s W c d h j k a => by have l := below_trans fB14 c; have E_ := (hP.below l).2 pa2 hpa2; rw [epa2] at E_; obtain ⟨u0_, u1_, u2_, u3_, u4_, u5_, u6_, u7_⟩ := E_; have v0_ : W.cell? ⟨bp, oP + pa2 * 8 + 2, none⟩ = some (.int .i64 PA2.t1) := u2_; have v1_ : W.cell? ⟨bp, oP + pa2 * 8 + 2 + 1, none⟩ = some (.int .i64 PA2.t2) := u3_; exact opv rfl rfl (by simp [go_sem, a.e 28 (d 7 rfl), v0_, v1_]) rfl,
  fun f s W c d h j k a => opc rfl rfl (by simp [go_sem, a.e 29 (d 8 rfl), a.e 22 (d 1 rfl)]) (low_ok (PA2.t1) (PA2.t2) W),
  fun f s W c d h j k a => opv rfl rfl (by simp [go_sem, a.e 21 (d 0 rfl), a.e 30 (d 9 rfl), IntWalk.i64_in (PA0.t1 + PA2.t1) (by omega)]) rfl,
  fun f s W c d h j k a => opv rfl rfl (by simp [go_sem, a.e 31 (d 10 rfl)]) rfl, trivial⟩ ?_
 intro f15 s15 W15 hB15 g15 hg15
 have fB15 := hB15.f fB14
 have z15 := hB15.below.size
 have b15_0 := hB15.b b14_0
 refine wpOps_end ?_
 have k15_1 := kt hg15 1 k14_1
 have k15_2 := kt hg15 2 k14_2
 have k15_11 := kt hg15 11 k14_11
 have k15_12 := kt hg15 12 k14_12
 have k15_13 := kt hg15 13 k14_13
 have k15_14 := kt hg15 14 k14_14
 have k15_5 := kt hg15 5 k14_5
 have k15_6 := kt hg15 6 k14_6
 have k15_20 := kt hg15 20 k14_20
 have k15_4 := kt hg15 4 (hB15.is 11)
 refine inBlock_normal ?_
 refine hK21 _ _ ?_
 refine region_dk 2 [(32, 0), (13, 1)] [[], [0]] (rel [is (.int .i64 3),
   is (.int .i64 3)])
  ⟨is_k, is_k, trivial⟩
  ⟨fun f s W c d h j k a => opv rfl rfl (by simp [go_sem, a.e 13 ((j 1 13 rfl rfl).trans k15_13), IntWalk.i64_in (3) (by omega)]) rfl,
  fun f s W c d h j k a => opv rfl rfl (by simp [go_sem, a.e 32 (d 0 rfl)]) rfl, trivial⟩ ?_
 intro f16 s16 W16 hB16 g16 hg16
 have fB16 := hB16.f fB15
 have z16 := hB16.below.size
 have b16_0 := hB16.b b15_0
 refine wpOps_end ?_
 have k16_1 := kt hg16 1 k15_1
 have k16_2 := kt hg16 2 k15_2
 have k16_11 := kt hg16 11 k15_11
 have k16_12 := kt hg16 12 k15_12
 have k16_14 := kt hg16 14 k15_14
 have k16_5 := kt hg16 5 k15_5
 have k16_6 := kt hg16 6 k15_6
 have k16_20 := kt hg16 20 k15_20
 have k16_4 := kt hg16 4 k15_4
 have k16_13 := kt hg16 13 (hB16.is 1)
 refine then_normal ?_
 rw [rounds_succ]
 refine wp_seq_k fun K25 hK25 => ?_
 refine region_dk 1 [(14, 0)] [[]] (rel [is (.bool false)])
  ⟨is_k, trivial⟩
  ⟨fun f s W c d h j k a => opv rfl rfl (by simp [go_sem, a.e 13 k16_13, a.e 12 k16_12]) rfl, trivial⟩ ?_
 intro f17 s17 W17 hB17 g17 hg17
 have fB17 := hB17.f fB16
 have z17 := hB17.below.size
 have b17_0 := hB17.b b16_0
 refine hK25 _ _ ?_
 have k17_1 := kt hg17 1 k16_1
 have k17_2 := kt hg17 2 k16_2
 have k17_11 := kt hg17 11 k16_11
 have k17_12 := kt hg17 12 k16_12
 have k17_5 := kt hg17 5 k16_5
 have k17_6 := kt hg17 6 k16_6
 have k17_20 := kt hg17 20 k16_20
 have k17_4 := kt hg17 4 k16_4
 have k17_13 := kt hg17 13 k16_13
 have k17_14 := kt hg17 14 (hB17.is 0)
 refine wp_seq_k fun K26 hK26 => ?_
 refine wp_cond_false ((fr_eval rfl).trans k17_14) ?_
 refine wp_exit ?_
 refine then_exit ?_
 refine then_exit ?_
 refine inBlock_at ?_
 refine hK2 _ _ ?_
 refine wp_seq_k fun K28 hK28 => ?_
 refine wp_seq_k fun K29 hK29 => ?_
 refine region_dk 5 [(33, 0), (34, 1), (35, 2), (36, 3), (37, 4)] [[], [0], [0, 1], [0, 1, 2], []] (rel [is (.pointer (some ⟨(s1 0), 0, none⟩)),
   is (.pointer (some ⟨(s1 0), 1, none⟩)),
   is (.slice (some ⟨tf, uf, none⟩) (1) (cf)),
   is (.int .i64 1),
   is (.int .i64 0)])
  ⟨is_k, is_k, is_k, is_k, is_k, trivial⟩
  ⟨fun f s W c d h j k a => opv rfl rfl (by simp [go_sem, a.e 2 k17_2]) rfl,
  fun f s W c d h j k a => opv rfl rfl (by simp [go_sem, a.e 33 (d 0 rfl)]) rfl,
  fun f s W c d h j k a => opv rfl rfl (by simp [go_sem, a.e 34 (d 1 rfl), cb b17_0 c 1]) rfl,
  fun f s W c d h j k a => opv rfl rfl (by simp [go_sem, a.e 35 (d 2 rfl)]) rfl,
  fun f s W c d h j k a => opv rfl rfl (by simp [go_sem]) rfl, trivial⟩ ?_
 intro f18 s18 W18 hB18 g18 hg18
 have fB18 := hB18.f fB17
 have z18 := hB18.below.size
 have b18_0 := hB18.b b17_0
 refine hK29 _ _ ?_
 have k18_1 := kt hg18 1 k17_1
 have k18_2 := kt hg18 2 k17_2
 have k18_4 := kt hg18 4 k17_4
 have k18_35 := kt hg18 35 (hB18.is 2)
 have k18_36 := kt hg18 36 (hB18.is 3)
 have k18_37 := kt hg18 37 (hB18.is 4)
 refine wp_block ?_
 refine wp_loop_rounds 2 ?_
 rw [rounds_succ]
 refine wp_seq_k fun K30 hK30 => ?_
 refine region_dk 1 [(38, 0)] [[]] (rel [is (.bool true)])
  ⟨is_k, trivial⟩
  ⟨fun f s W c d h j k a => opv rfl rfl (by simp [go_sem, a.e 37 k18_37, a.e 36 k18_36]) rfl, trivial⟩ ?_
 intro f19 s19 W19 hB19 g19 hg19
 have fB19 := hB19.f fB18
 have z19 := hB19.below.size
 have b19_0 := hB19.b b18_0
 refine hK30 _ _ ?_
 have k19_1 := kt hg19 1 k18_1
 have k19_2 := kt hg19 2 k18_2
 have k19_4 := kt hg19 4 k18_4
 have k19_35 := kt hg19 35 k18_35
 have k19_36 := kt hg19 36 k18_36
 have k19_37 := kt hg19 37 k18_37
 have k19_38 := kt hg19 38 (hB19.is 0)
 refine wp_seq_k fun K31 hK31 => ?_
 refine wp_cond_true ((fr_eval rfl).trans k19_38) ?_
 refine wp_skip ?_
 refine hK31 _ _ ?_
 refine wp_seq_k fun K33 hK33 => ?_
 refine wp_block ?_
 refine wp_seq_k fun K34 hK34 => ?_
 refine region_dk 3 [(39, 0), (40, 1), (8, 2)] [[], [0], [0, 1]] (rel [is (.pointer (some ⟨tf, uf, none⟩)),
   is (.int .i64 ((fa0 : Int))),
   is (.int .i64 ((fa0 : Int)))])
  ⟨is_k, is_k, is_k, trivial⟩
  ⟨fun f s W c d h j k a => opv rfl rfl (by simp [go_sem, a.e 35 k19_35, a.e 37 k19_37]) rfl,
  fun f s W c d h j k a => by have l := below_trans fB19 c; have cu : W.cell? ⟨tf, uf, none⟩ = some (.int .i64 (fa0 : Int)) := ii_cell (hF.below l (Nat.le_refl _)) 0 (by simp); exact opv rfl rfl (by simp [go_sem, a.e 39 (d 0 rfl), cu]) rfl,
  fun f s W c d h j k a => opv rfl rfl (by simp [go_sem, a.e 40 (d 1 rfl)]) rfl, trivial⟩ ?_
 intro f20 s20 W20 hB20 g20 hg20
 have fB20 := hB20.f fB19
 have z20 := hB20.below.size
 have b20_0 := hB20.b b19_0
 refine hK34 _ _ ?_
 have k20_1 := kt hg20 1 k19_1
 have k20_2 := kt hg20 2 k19_2
 have k20_4 := kt hg20 4 k19_4
 have k20_35 := kt hg20 35 k19_35
 have k20_36 := kt hg20 36 k19_36
 have k20_37 := kt hg20 37 k19_37
 have k20_38 := kt hg20 38 k19_38
 have k20_8 := kt hg20 8 (hB20.is 2)
 refine region_dk 12 [(41, 0), (42, 1), (43, 2), (44, 3), (45, 4), (46, 5), (47, 6), (48, 7), (49, 8), (50, 9), (51, 10), (4, 11)] [[], [], [], [2], [2, 3], [], [2, 3, 4, 5], [2, 3, 4, 5, 6], [2, 3, 4, 5, 6, 7], [1, 2, 3, 4, 5, 6, 7, 8], [0, 1, 2, 3, 4, 5, 6, 7, 8, 9], [0, 1, 2, 3, 4, 5, 6, 7, 8, 9, 10]] (rel [is (.int .i64 (PA0.t1 + PA2.t1)),
   is (.func (.func 38) #[] #[]),
   is (.pointer (some ⟨(s1 0), 2, none⟩)),
   is (.pointer (some ⟨(s1 0), 3, none⟩)),
   is (.slice (some ⟨bq, oq, none⟩) (nq) (cq)),
   is (.int .i64 ((fa0 : Int))),
   is (.pointer (some ⟨bq, oq + fa0 * 4, none⟩)),
   is (.pointer (some ⟨bq, oq + fa0 * 4 + 2, none⟩)),
   is (.agg #[.int .i64 FA0.h1, .int .i64 FA0.h2]),
   is (.int .i64 FA0.h1),
   is (.int .i64 ((PA0.t1 + PA2.t1) + FA0.h1)),
   is (.int .i64 ((PA0.t1 + PA2.t1) + FA0.h1))])
  ⟨is_k, is_k, is_k, is_k, is_k, is_k, is_k, is_k, is_k, is_k, is_k, is_k, trivial⟩
  ⟨fun f s W c d h j k a => opv rfl rfl (by simp [go_sem, a.e 4 ((j 11 4 rfl rfl).trans k20_4)]) rfl,
  fun f s W c d h j k a => opv rfl rfl (by simp [go_sem, a.e 1 k20_1]) rfl,
  fun f s W c d h j k a => opv rfl rfl (by simp [go_sem, a.e 2 k20_2]) rfl,
  fun f s W c d h j k a => opv rfl rfl (by simp [go_sem, a.e 43 (d 2 rfl)]) rfl,
  fun f s W c d h j k a => opv rfl rfl (by simp [go_sem, a.e 44 (d 3 rfl), cb b20_0 c 3]) rfl,
  fun f s W c d h j k a => opv rfl rfl (by simp [go_sem, a.e 8 k20_8]) rfl,
  fun f s W c d h j k a => by have li_ := Nat.not_le.2 hfa0; have lz_ : (fa0 : Int) < (nq : Int) := (by omega); exact opv rfl rfl (by simp [go_sem, a.e 45 (d 4 rfl), a.e 46 (d 5 rfl), li_, hfa0, lz_]) rfl,
  fun f s W c d h j k a => opv rfl rfl (by simp [go_sem, a.e 47 (d 6 rfl)]) rfl,
  fun f s W c d h j k a => by have l := below_trans fB20 c; have E_ := (hQ.below l).2 fa0 hfa0; rw [efa0] at E_; obtain ⟨u0_, u1_, u2_, u3_⟩ := E_; have v0_ : W.cell? ⟨bq, oq + fa0 * 4 + 2, none⟩ = some (.int .i64 FA0.h1) := u2_; have v1_ : W.cell? ⟨bq, oq + fa0 * 4 + 2 + 1, none⟩ = some (.int .i64 FA0.h2) := u3_; exact opv rfl rfl (by simp [go_sem, a.e 48 (d 7 rfl), v0_, v1_]) rfl,
  fun f s W c d h j k a => opc rfl rfl (by simp [go_sem, a.e 49 (d 8 rfl), a.e 42 (d 1 rfl)]) (low_ok (FA0.h1) (FA0.h2) W),
  fun f s W c d h j k a => opv rfl rfl (by simp [go_sem, a.e 41 (d 0 rfl), a.e 50 (d 9 rfl), IntWalk.i64_in ((PA0.t1 + PA2.t1) + FA0.h1) (by omega)]) rfl,
  fun f s W c d h j k a => opv rfl rfl (by simp [go_sem, a.e 51 (d 10 rfl)]) rfl, trivial⟩ ?_
 intro f21 s21 W21 hB21 g21 hg21
 have fB21 := hB21.f fB20
 have z21 := hB21.below.size
 have b21_0 := hB21.b b20_0
 refine wpOps_end ?_
 have k21_1 := kt hg21 1 k20_1
 have k21_2 := kt hg21 2 k20_2
 have k21_35 := kt hg21 35 k20_35
 have k21_36 := kt hg21 36 k20_36
 have k21_37 := kt hg21 37 k20_37
 have k21_38 := kt hg21 38 k20_38
 have k21_8 := kt hg21 8 k20_8
 have k21_4 := kt hg21 4 (hB21.is 11)
 refine inBlock_normal ?_
 refine hK33 _ _ ?_
 refine region_dk 2 [(52, 0), (37, 1)] [[], [0]] (rel [is (.int .i64 1),
   is (.int .i64 1)])
  ⟨is_k, is_k, trivial⟩
  ⟨fun f s W c d h j k a => opv rfl rfl (by simp [go_sem, a.e 37 ((j 1 37 rfl rfl).trans k21_37), IntWalk.i64_in (1) (by omega)]) rfl,
  fun f s W c d h j k a => opv rfl rfl (by simp [go_sem, a.e 52 (d 0 rfl)]) rfl, trivial⟩ ?_
 intro f22 s22 W22 hB22 g22 hg22
 have fB22 := hB22.f fB21
 have z22 := hB22.below.size
 have b22_0 := hB22.b b21_0
 refine wpOps_end ?_
 have k22_1 := kt hg22 1 k21_1
 have k22_2 := kt hg22 2 k21_2
 have k22_35 := kt hg22 35 k21_35
 have k22_36 := kt hg22 36 k21_36
 have k22_38 := kt hg22 38 k21_38
 have k22_8 := kt hg22 8 k21_8
 have k22_4 := kt hg22 4 k21_4
 have k22_37 := kt hg22 37 (hB22.is 1)
 refine then_normal ?_
 rw [rounds_succ]
 refine wp_seq_k fun K35 hK35 => ?_
 refine region_dk 1 [(38, 0)] [[]] (rel [is (.bool false)])
  ⟨is_k, trivial⟩
  ⟨fun f s W c d h j k a => opv rfl rfl (by simp [go_sem, a.e 37 k22_37, a.e 36 k22_36]) rfl, trivial⟩ ?_
 intro f23 s23 W23 hB23 g23 hg23
 have fB23 := hB23.f fB22
 have z23 := hB23.below.size
 have b23_0 := hB23.b b22_0
 refine hK35 _ _ ?_
 have k23_1 := kt hg23 1 k22_1
 have k23_2 := kt hg23 2 k22_2
 have k23_35 := kt hg23 35 k22_35
 have k23_36 := kt hg23 36 k22_36
 have k23_8 := kt hg23 8 k22_8
 have k23_4 := kt hg23 4 k22_4
 have k23_37 := kt hg23 37 k22_37
 have k23_38 := kt hg23 38 (hB23.is 0)
 refine wp_seq_k fun K36 hK36 => ?_
 refine wp_cond_false ((fr_eval rfl).trans k23_38) ?_
 refine wp_exit ?_
 refine then_exit ?_
 refine then_exit ?_
 refine inBlock_at ?_
 refine hK28 _ _ ?_
 refine wp_seq_k fun K38 hK38 => ?_
 refine region_dk 2 [(53, 0), (4, 1)] [[], [0]] (rel [is (.int .i64 ((PA0.t1 + PA2.t1) + FA0.h1)),
   is (.int .i64 ((PA0.t1 + PA2.t1) + FA0.h1))])
  ⟨is_k, is_k, trivial⟩
  ⟨fun f s W c d h j k a => opv rfl rfl (by simp [go_sem, a.e 4 ((j 1 4 rfl rfl).trans k23_4)]) rfl,
  fun f s W c d h j k a => opv rfl rfl (by simp [go_sem, a.e 53 (d 0 rfl)]) rfl, trivial⟩ ?_
 intro f24 s24 W24 hB24 g24 hg24
 have fB24 := hB24.f fB23
 have z24 := hB24.below.size
 have b24_0 := hB24.b b23_0
 refine hK38 _ _ ?_
 have k24_4 := kt hg24 4 (hB24.is 1)
 refine wp_ret ?_
 refine leave_one (N := 54) (v := .int .i64 ((PA0.t1 + PA2.t1) + FA0.h1)) (.inr rfl) Try.results41 rfl k24_4 ?_
 exact ⟨rfl, fB24⟩
set_option maxRecDepth 100000 in
set_option maxHeartbeats 8000000 in
theorem caliper_1_2 (ps : Nat → Pa) (qs : Nat → Fu) (bp oP np cp bq oq nq cq : Nat) (tx ux cx tf uf cf pa0 pa1 pa2 fa0 : Nat) (PA0 PA1 PA2 : Pa) (FA0 : Fu) (wh : Int) (w : World) (hP : PaR w bp oP np ps) (hQ : FuR w bq oq nq qs) (hpi : ∀ i, i < np → PaIn (ps i)) (hqi : ∀ i, i < nq → FuIn (qs i)) (np1 : 1 ≤ np) (np8 : np ≤ 8) (nq1 : 1 ≤ nq) (nq4 : nq ≤ 4) (hX : Ii w (some ⟨tx, ux, none⟩) 3 cx [(pa0 : Int), (pa1 : Int), (pa2 : Int)]) (hF : Ii w (some ⟨tf, uf, none⟩) 1 cf [(fa0 : Int)]) (hpa0 : pa0 < np) (epa0 : ps pa0 = PA0) (hpa1 : pa1 < np) (epa1 : ps pa1 = PA1) (hpa2 : pa2 < np) (epa2 : ps pa2 = PA2) (hfa0 : fa0 < nq) (efa0 : qs fa0 = FA0) (hk0 : PA0.kind = 1) (hk1 : PA1.kind = 2) (hk2 : PA2.kind = 1) (hwh : FA0.pitch = wh) (gwh : 0 ≤ wh ∧ wh ≤ 100000000) (gw1 : 0 ≤ FA0.pitch ∧ FA0.pitch ≤ 10000) :
  Calls Try.prog 41 #[.agg #[.slice (some ⟨tx, ux, none⟩) (3) (cx), .slice (some ⟨tf, uf, none⟩) (1) (cf), .slice (some ⟨bp, oP, none⟩) (np) (cp), .slice (some ⟨bq, oq, none⟩) (nq) (cq), .int .i64 wh], .func (.func 39) #[] #[]] w (fun e w' => e = .returned (.int .i64 ((PA0.t2 + PA2.t2) + FA0.h2)) ∧ Below w.heap.size w w') := by
 have gi0 := (epa0 ▸ hpi pa0 hpa0 : PaIn PA0).thick
 have gi1 := (epa1 ▸ hpi pa1 hpa1 : PaIn PA1).thick
 have gi2 := (epa2 ▸ hpi pa2 hpa2 : PaIn PA2).thick
 have gj0 := (efa0 ▸ hqi fa0 hfa0 : FuIn FA0).high
 refine calls_fr Try.func41 Try.ntmps41 rfl rfl fun g hg => ?_
 have k0 : g 0 = .agg #[.slice (some ⟨tx, ux, none⟩) (3) (cx), .slice (some ⟨tf, uf, none⟩) (1) (cf), .slice (some ⟨bp, oP, none⟩) (np) (cp), .slice (some ⟨bq, oq, none⟩) (nq) (cq), .int .i64 wh] := hg 0
 have k1 : g 1 = .func (.func 39) #[] #[] := hg 1
 clear hg
 have fB0 : Below w.heap.size w w := Below.refl _ _
 refine wp_seq_k fun K1 hK1 => ?_
 refine region_dk 2 [(2, 0), (4, 1)] [[], []] (rel [bx 0 #[.slice (some ⟨tx, ux, none⟩) (3) (cx), .slice (some ⟨tf, uf, none⟩) (1) (cf), .slice (some ⟨bp, oP, none⟩) (np) (cp), .slice (some ⟨bq, oq, none⟩) (nq) (cq), .int .i64 wh] 72,
   is (.int .i64 0)])
  ⟨bx_k, is_k, trivial⟩
  ⟨fun f s W c d h j k a => opb rfl rfl (by simp [go_sem, a.e 0 k0]),
  fun f s W c d h j k a => opv rfl rfl (by simp [go_sem]) rfl, trivial⟩ ?_
 intro f1 s1 W1 hB1 g1 hg1
 have fB1 := hB1.f fB0
 have z1 := hB1.below.size
 obtain ⟨r1_0, br1_0⟩ := hB1.is 0
 have lr1_0 := hB1.lr 0 br1_0
 refine hK1 _ _ ?_
 have k1_1 := kt hg1 1 k1
 have k1_2 := kt hg1 2 r1_0
 have k1_4 := kt hg1 4 (hB1.is 1)
 refine wp_seq_k fun K2 hK2 => ?_
 refine wp_seq_k fun K3 hK3 => ?_
 refine region_dk 5 [(9, 0), (10, 1), (11, 2), (12, 3), (13, 4)] [[], [0], [0, 1], [0, 1, 2], []] (rel [is (.pointer (some ⟨(s1 0), 0, none⟩)),
   is (.pointer (some ⟨(s1 0), 0, none⟩)),
   is (.slice (some ⟨tx, ux, none⟩) (3) (cx)),
   is (.int .i64 3),
   is (.int .i64 0)])
  ⟨is_k, is_k, is_k, is_k, is_k, trivial⟩
  ⟨fun f s W c d h j k a => opv rfl rfl (by simp [go_sem, a.e 2 k1_2]) rfl,
  fun f s W c d h j k a => opv rfl rfl (by simp [go_sem, a.e 9 (d 0 rfl)]) rfl,
  fun f s W c d h j k a => opv rfl rfl (by simp [go_sem, a.e 10 (d 1 rfl), cb br1_0 c 0]) rfl,
  fun f s W c d h j k a => opv rfl rfl (by simp [go_sem, a.e 11 (d 2 rfl)]) rfl,
  fun f s W c d h j k a => opv rfl rfl (by simp [go_sem]) rfl, trivial⟩ ?_
 intro f2 s2 W2 hB2 g2 hg2
 have fB2 := hB2.f fB1
 have z2 := hB2.below.size
 have b2_0 := hB2.b br1_0
 refine hK3 _ _ ?_
 have k2_1 := kt hg2 1 k1_1
 have k2_2 := kt hg2 2 k1_2
 have k2_4 := kt hg2 4 k1_4
 have k2_11 := kt hg2 11 (hB2.is 2)
 have k2_12 := kt hg2 12 (hB2.is 3)
 have k2_13 := kt hg2 13 (hB2.is 4)
 refine wp_block ?_
 refine wp_loop_rounds 4 ?_
 rw [rounds_succ]
 refine wp_seq_k fun K4 hK4 => ?_
 refine region_dk 1 [(14, 0)] [[]] (rel [is (.bool true)])
  ⟨is_k, trivial⟩
  ⟨fun f s W c d h j k a => opv rfl rfl (by simp [go_sem, a.e 13 k2_13, a.e 12 k2_12]) rfl, trivial⟩ ?_
 intro f3 s3 W3 hB3 g3 hg3
 have fB3 := hB3.f fB2
 have z3 := hB3.below.size
 have b3_0 := hB3.b b2_0
 refine hK4 _ _ ?_
 have k3_1 := kt hg3 1 k2_1
 have k3_2 := kt hg3 2 k2_2
 have k3_4 := kt hg3 4 k2_4
 have k3_11 := kt hg3 11 k2_11
 have k3_12 := kt hg3 12 k2_12
 have k3_13 := kt hg3 13 k2_13
 have k3_14 := kt hg3 14 (hB3.is 0)
 refine wp_seq_k fun K5 hK5 => ?_
 refine wp_cond_true ((fr_eval rfl).trans k3_14) ?_
 refine wp_skip ?_
 refine hK5 _ _ ?_
 refine wp_seq_k fun K7 hK7 => ?_
 refine wp_block ?_
 refine wp_seq_k fun K8 hK8 => ?_
 refine region_dk 5 [(15, 0), (16, 1), (17, 2), (5, 3), (6, 4)] [[], [], [1], [0, 1, 2], [0, 1, 2, 3]] (rel [is (.int .i64 0),
   is (.pointer (some ⟨tx, ux, none⟩)),
   is (.int .i64 ((pa0 : Int))),
   is (.int .i64 0),
   is (.int .i64 ((pa0 : Int)))])
  ⟨is_k, is_k, is_k, is_k, is_k, trivial⟩
  ⟨fun f s W c d h j k a => opv rfl rfl (by simp [go_sem, a.e 13 k3_13]) rfl,
  fun f s W c d h j k a => opv rfl rfl (by simp [go_sem, a.e 11 k3_11, a.e 13 k3_13]) rfl,
  fun f s W c d h j k a => by have l := below_trans fB3 c; have cu : W.cell? ⟨tx, ux, none⟩ = some (.int .i64 (pa0 : Int)) := ii_cell (hX.below l (Nat.le_refl _)) 0 (by simp); exact opv rfl rfl (by simp [go_sem, a.e 16 (d 1 rfl), cu]) rfl,
  fun f s W c d h j k a => opv rfl rfl (by simp [go_sem, a.e 15 (d 0 rfl)]) rfl,
  fun f s W c d h j k a => opv rfl rfl (by simp [go_sem, a.e 17 (d 2 rfl)]) rfl, trivial⟩ ?_
 intro f4 s4 W4 hB4 g4 hg4
 have fB4 := hB4.f fB3
 have z4 := hB4.below.size
 have b4_0 := hB4.b b3_0
 refine hK8 _ _ ?_
 have k4_1 := kt hg4 1 k3_1
 have k4_2 := kt hg4 2 k3_2
 have k4_4 := kt hg4 4 k3_4
 have k4_11 := kt hg4 11 k3_11
 have k4_12 := kt hg4 12 k3_12
 have k4_13 := kt hg4 13 k3_13
 have k4_14 := kt hg4 14 k3_14
 have k4_5 := kt hg4 5 (hB4.is 3)
 have k4_6 := kt hg4 6 (hB4.is 4)
 refine wp_seq_k fun K9 hK9 => ?_
 refine region_dk 3 [(18, 0), (19, 1), (20, 2)] [[], [0], [0, 1]] (rel [is (.int .i64 0),
   is (.int .i64 0),
   is (.bool true)])
  ⟨is_k, is_k, is_k, trivial⟩
  ⟨fun f s W c d h j k a => opv rfl rfl (by simp [go_sem, a.e 5 k4_5]) rfl,
  fun f s W c d h j k a => by have qw_ := IntWalk.i64_in (0) (by decide); exact opv rfl rfl (by simp [go_sem, a.e 18 (d 0 rfl), qw_]) rfl,
  fun f s W c d h j k a => opv rfl rfl (by simp [go_sem, a.e 19 (d 1 rfl)]) rfl, trivial⟩ ?_
 intro f5 s5 W5 hB5 g5 hg5
 have fB5 := hB5.f fB4
 have z5 := hB5.below.size
 have b5_0 := hB5.b b4_0
 refine hK9 _ _ ?_
 have k5_1 := kt hg5 1 k4_1
 have k5_2 := kt hg5 2 k4_2
 have k5_4 := kt hg5 4 k4_4
 have k5_11 := kt hg5 11 k4_11
 have k5_12 := kt hg5 12 k4_12
 have k5_13 := kt hg5 13 k4_13
 have k5_14 := kt hg5 14 k4_14
 have k5_5 := kt hg5 5 k4_5
 have k5_6 := kt hg5 6 k4_6
 have k5_20 := kt hg5 20 (hB5.is 2)
 refine wp_cond_true ((fr_eval rfl).trans k5_20) ?_
 refine region_dk 12 [(21, 0), (22, 1), (23, 2), (24, 3), (25, 4), (26, 5), (27, 6), (28, 7), (29, 8), (30, 9), (31, 10), (4, 11)] [[], [], [], [2], [2, 3], [], [2, 3, 4, 5], [2, 3, 4, 5, 6], [2, 3, 4, 5, 6, 7], [1, 2, 3, 4, 5, 6, 7, 8], [0, 1, 2, 3, 4, 5, 6, 7, 8, 9], [0, 1, 2, 3, 4, 5, 6, 7, 8, 9, 10]] (rel [is (.int .i64 0),
   is (.func (.func 39) #[] #[]),
   is (.pointer (some ⟨(s1 0), 2, none⟩)),
   is (.pointer (some ⟨(s1 0), 2, none⟩)),
   is (.slice (some ⟨bp, oP, none⟩) (np) (cp)),
   is (.int .i64 ((pa0 : Int))),
   is (.pointer (some ⟨bp, oP + pa0 * 8, none⟩)),
   is (.pointer (some ⟨bp, oP + pa0 * 8 + 2, none⟩)),
   is (.agg #[.int .i64 PA0.t1, .int .i64 PA0.t2]),
   is (.int .i64 PA0.t2),
   is (.int .i64 PA0.t2),
   is (.int .i64 PA0.t2)])
  ⟨is_k, is_k, is_k, is_k, is_k, is_k, is_k, is_k, is_k, is_k, is_k, is_k, trivial⟩
  ⟨fun f s W c d h j k a => opv rfl rfl (by simp [go_sem, a.e 4 ((j 11 4 rfl rfl).trans k5_4)]) rfl,
  fun f s W c d h j k a => opv rfl rfl (by simp [go_sem, a.e 1 k5_1]) rfl,
  fun f s W c d h j k a => opv rfl rfl (by simp [go_sem, a.e 2 k5_2]) rfl,
  fun f s W c d h j k a => opv rfl rfl (by simp [go_sem, a.e 23 (d 2 rfl)]) rfl,
  fun f s W c d h j k a => opv rfl rfl (by simp [go_sem, a.e 24 (d 3 rfl), cb b5_0 c 2]) rfl,
  fun f s W c d h j k a => opv rfl rfl (by simp [go_sem, a.e 6 k5_6]) rfl,
  fun f s W c d h j k a => by have li_ := Nat.not_le.2 hpa0; have lz_ : (pa0 : Int) < (np : Int) := (by omega); exact opv rfl rfl (by simp [go_sem, a.e 25 (d 4 rfl), a.e 26 (d 5 rfl), li_, hpa0, lz_]) rfl,
  fun f s W c d h j k a => opv rfl rfl (by simp [go_sem, a.e 27 (d 6 rfl)]) rfl,
  fun f s W c d h j k a => by have l := below_trans fB5 c; have E_ := (hP.below l).2 pa0 hpa0; rw [epa0] at E_; obtain ⟨u0_, u1_, u2_, u3_, u4_, u5_, u6_, u7_⟩ := E_; have v0_ : W.cell? ⟨bp, oP + pa0 * 8 + 2, none⟩ = some (.int .i64 PA0.t1) := u2_; have v1_ : W.cell? ⟨bp, oP + pa0 * 8 + 2 + 1, none⟩ = some (.int .i64 PA0.t2) := u3_; exact opv rfl rfl (by simp [go_sem, a.e 28 (d 7 rfl), v0_, v1_]) rfl,
  fun f s W c d h j k a => opc rfl rfl (by simp [go_sem, a.e 29 (d 8 rfl), a.e 22 (d 1 rfl)]) (high_ok (PA0.t1) (PA0.t2) W),
  fun f s W c d h j k a => opv rfl rfl (by simp [go_sem, a.e 21 (d 0 rfl), a.e 30 (d 9 rfl), IntWalk.i64_in (PA0.t2) (by omega)]) rfl,
  fun f s W c d h j k a => opv rfl rfl (by simp [go_sem, a.e 31 (d 10 rfl)]) rfl, trivial⟩ ?_
 intro f6 s6 W6 hB6 g6 hg6
 have fB6 := hB6.f fB5
 have z6 := hB6.below.size
 have b6_0 := hB6.b b5_0
 refine wpOps_end ?_
 have k6_1 := kt hg6 1 k5_1
 have k6_2 := kt hg6 2 k5_2
 have k6_11 := kt hg6 11 k5_11
 have k6_12 := kt hg6 12 k5_12
 have k6_13 := kt hg6 13 k5_13
 have k6_14 := kt hg6 14 k5_14
 have k6_5 := kt hg6 5 k5_5
 have k6_6 := kt hg6 6 k5_6
 have k6_20 := kt hg6 20 k5_20
 have k6_4 := kt hg6 4 (hB6.is 11)
 refine inBlock_normal ?_
 refine hK7 _ _ ?_
 refine region_dk 2 [(32, 0), (13, 1)] [[], [0]] (rel [is (.int .i64 1),
   is (.int .i64 1)])
  ⟨is_k, is_k, trivial⟩
  ⟨fun f s W c d h j k a => opv rfl rfl (by simp [go_sem, a.e 13 ((j 1 13 rfl rfl).trans k6_13), IntWalk.i64_in (1) (by omega)]) rfl,
  fun f s W c d h j k a => opv rfl rfl (by simp [go_sem, a.e 32 (d 0 rfl)]) rfl, trivial⟩ ?_
 intro f7 s7 W7 hB7 g7 hg7
 have fB7 := hB7.f fB6
 have z7 := hB7.below.size
 have b7_0 := hB7.b b6_0
 refine wpOps_end ?_
 have k7_1 := kt hg7 1 k6_1
 have k7_2 := kt hg7 2 k6_2
 have k7_11 := kt hg7 11 k6_11
 have k7_12 := kt hg7 12 k6_12
 have k7_14 := kt hg7 14 k6_14
 have k7_5 := kt hg7 5 k6_5
 have k7_6 := kt hg7 6 k6_6
 have k7_20 := kt hg7 20 k6_20
 have k7_4 := kt hg7 4 k6_4
 have k7_13 := kt hg7 13 (hB7.is 1)
 refine then_normal ?_
 rw [rounds_succ]
 refine wp_seq_k fun K11 hK11 => ?_
 refine region_dk 1 [(14, 0)] [[]] (rel [is (.bool true)])
  ⟨is_k, trivial⟩
  ⟨fun f s W c d h j k a => opv rfl rfl (by simp [go_sem, a.e 13 k7_13, a.e 12 k7_12]) rfl, trivial⟩ ?_
 intro f8 s8 W8 hB8 g8 hg8
 have fB8 := hB8.f fB7
 have z8 := hB8.below.size
 have b8_0 := hB8.b b7_0
 refine hK11 _ _ ?_
 have k8_1 := kt hg8 1 k7_1
 have k8_2 := kt hg8 2 k7_2
 have k8_11 := kt hg8 11 k7_11
 have k8_12 := kt hg8 12 k7_12
 have k8_5 := kt hg8 5 k7_5
 have k8_6 := kt hg8 6 k7_6
 have k8_20 := kt hg8 20 k7_20
 have k8_4 := kt hg8 4 k7_4
 have k8_13 := kt hg8 13 k7_13
 have k8_14 := kt hg8 14 (hB8.is 0)
 refine wp_seq_k fun K12 hK12 => ?_
 refine wp_cond_true ((fr_eval rfl).trans k8_14) ?_
 refine wp_skip ?_
 refine hK12 _ _ ?_
 refine wp_seq_k fun K14 hK14 => ?_
 refine wp_block ?_
 refine wp_seq_k fun K15 hK15 => ?_
 refine region_dk 5 [(15, 0), (16, 1), (17, 2), (5, 3), (6, 4)] [[], [], [1], [0, 1, 2], [0, 1, 2, 3]] (rel [is (.int .i64 1),
   is (.pointer (some ⟨tx, ux + 1, none⟩)),
   is (.int .i64 ((pa1 : Int))),
   is (.int .i64 1),
   is (.int .i64 ((pa1 : Int)))])
  ⟨is_k, is_k, is_k, is_k, is_k, trivial⟩
  ⟨fun f s W c d h j k a => opv rfl rfl (by simp [go_sem, a.e 13 k8_13]) rfl,
  fun f s W c d h j k a => opv rfl rfl (by simp [go_sem, a.e 11 k8_11, a.e 13 k8_13]) rfl,
  fun f s W c d h j k a => by have l := below_trans fB8 c; have cu : W.cell? ⟨tx, ux + 1, none⟩ = some (.int .i64 (pa1 : Int)) := ii_cell (hX.below l (Nat.le_refl _)) 1 (by simp); exact opv rfl rfl (by simp [go_sem, a.e 16 (d 1 rfl), cu]) rfl,
  fun f s W c d h j k a => opv rfl rfl (by simp [go_sem, a.e 15 (d 0 rfl)]) rfl,
  fun f s W c d h j k a => opv rfl rfl (by simp [go_sem, a.e 17 (d 2 rfl)]) rfl, trivial⟩ ?_
 intro f9 s9 W9 hB9 g9 hg9
 have fB9 := hB9.f fB8
 have z9 := hB9.below.size
 have b9_0 := hB9.b b8_0
 refine hK15 _ _ ?_
 have k9_1 := kt hg9 1 k8_1
 have k9_2 := kt hg9 2 k8_2
 have k9_11 := kt hg9 11 k8_11
 have k9_12 := kt hg9 12 k8_12
 have k9_20 := kt hg9 20 k8_20
 have k9_4 := kt hg9 4 k8_4
 have k9_13 := kt hg9 13 k8_13
 have k9_14 := kt hg9 14 k8_14
 have k9_5 := kt hg9 5 (hB9.is 3)
 have k9_6 := kt hg9 6 (hB9.is 4)
 refine wp_seq_k fun K16 hK16 => ?_
 refine region_dk 3 [(18, 0), (19, 1), (20, 2)] [[], [0], [0, 1]] (rel [is (.int .i64 1),
   is (.int .i64 1),
   is (.bool false)])
  ⟨is_k, is_k, is_k, trivial⟩
  ⟨fun f s W c d h j k a => opv rfl rfl (by simp [go_sem, a.e 5 k9_5]) rfl,
  fun f s W c d h j k a => by have qw_ := IntWalk.i64_in (1) (by decide); exact opv rfl rfl (by simp [go_sem, a.e 18 (d 0 rfl), qw_]) rfl,
  fun f s W c d h j k a => opv rfl rfl (by simp [go_sem, a.e 19 (d 1 rfl)]) rfl, trivial⟩ ?_
 intro f10 s10 W10 hB10 g10 hg10
 have fB10 := hB10.f fB9
 have z10 := hB10.below.size
 have b10_0 := hB10.b b9_0
 refine hK16 _ _ ?_
 have k10_1 := kt hg10 1 k9_1
 have k10_2 := kt hg10 2 k9_2
 have k10_11 := kt hg10 11 k9_11
 have k10_12 := kt hg10 12 k9_12
 have k10_4 := kt hg10 4 k9_4
 have k10_13 := kt hg10 13 k9_13
 have k10_14 := kt hg10 14 k9_14
 have k10_5 := kt hg10 5 k9_5
 have k10_6 := kt hg10 6 k9_6
 have k10_20 := kt hg10 20 (hB10.is 2)
 refine wp_cond_false ((fr_eval rfl).trans k10_20) ?_
 refine wp_skip ?_
 refine inBlock_normal ?_
 refine hK14 _ _ ?_
 refine region_dk 2 [(32, 0), (13, 1)] [[], [0]] (rel [is (.int .i64 2),
   is (.int .i64 2)])
  ⟨is_k, is_k, trivial⟩
  ⟨fun f s W c d h j k a => opv rfl rfl (by simp [go_sem, a.e 13 ((j 1 13 rfl rfl).trans k10_13), IntWalk.i64_in (2) (by omega)]) rfl,
  fun f s W c d h j k a => opv rfl rfl (by simp [go_sem, a.e 32 (d 0 rfl)]) rfl, trivial⟩ ?_
 intro f11 s11 W11 hB11 g11 hg11
 have fB11 := hB11.f fB10
 have z11 := hB11.below.size
 have b11_0 := hB11.b b10_0
 refine wpOps_end ?_
 have k11_1 := kt hg11 1 k10_1
 have k11_2 := kt hg11 2 k10_2
 have k11_11 := kt hg11 11 k10_11
 have k11_12 := kt hg11 12 k10_12
 have k11_4 := kt hg11 4 k10_4
 have k11_14 := kt hg11 14 k10_14
 have k11_5 := kt hg11 5 k10_5
 have k11_6 := kt hg11 6 k10_6
 have k11_20 := kt hg11 20 k10_20
 have k11_13 := kt hg11 13 (hB11.is 1)
 refine then_normal ?_
 rw [rounds_succ]
 refine wp_seq_k fun K18 hK18 => ?_
 refine region_dk 1 [(14, 0)] [[]] (rel [is (.bool true)])
  ⟨is_k, trivial⟩
  ⟨fun f s W c d h j k a => opv rfl rfl (by simp [go_sem, a.e 13 k11_13, a.e 12 k11_12]) rfl, trivial⟩ ?_
 intro f12 s12 W12 hB12 g12 hg12
 have fB12 := hB12.f fB11
 have z12 := hB12.below.size
 have b12_0 := hB12.b b11_0
 refine hK18 _ _ ?_
 have k12_1 := kt hg12 1 k11_1
 have k12_2 := kt hg12 2 k11_2
 have k12_11 := kt hg12 11 k11_11
 have k12_12 := kt hg12 12 k11_12
 have k12_4 := kt hg12 4 k11_4
 have k12_5 := kt hg12 5 k11_5
 have k12_6 := kt hg12 6 k11_6
 have k12_20 := kt hg12 20 k11_20
 have k12_13 := kt hg12 13 k11_13
 have k12_14 := kt hg12 14 (hB12.is 0)
 refine wp_seq_k fun K19 hK19 => ?_
 refine wp_cond_true ((fr_eval rfl).trans k12_14) ?_
 refine wp_skip ?_
 refine hK19 _ _ ?_
 refine wp_seq_k fun K21 hK21 => ?_
 refine wp_block ?_
 refine wp_seq_k fun K22 hK22 => ?_
 refine region_dk 5 [(15, 0), (16, 1), (17, 2), (5, 3), (6, 4)] [[], [], [1], [0, 1, 2], [0, 1, 2, 3]] (rel [is (.int .i64 2),
   is (.pointer (some ⟨tx, ux + 2, none⟩)),
   is (.int .i64 ((pa2 : Int))),
   is (.int .i64 2),
   is (.int .i64 ((pa2 : Int)))])
  ⟨is_k, is_k, is_k, is_k, is_k, trivial⟩
  ⟨fun f s W c d h j k a => opv rfl rfl (by simp [go_sem, a.e 13 k12_13]) rfl,
  fun f s W c d h j k a => opv rfl rfl (by simp [go_sem, a.e 11 k12_11, a.e 13 k12_13]) rfl,
  fun f s W c d h j k a => by have l := below_trans fB12 c; have cu : W.cell? ⟨tx, ux + 2, none⟩ = some (.int .i64 (pa2 : Int)) := ii_cell (hX.below l (Nat.le_refl _)) 2 (by simp); exact opv rfl rfl (by simp [go_sem, a.e 16 (d 1 rfl), cu]) rfl,
  fun f s W c d h j k a => opv rfl rfl (by simp [go_sem, a.e 15 (d 0 rfl)]) rfl,
  fun f s W c d h j k a => opv rfl rfl (by simp [go_sem, a.e 17 (d 2 rfl)]) rfl, trivial⟩ ?_
 intro f13 s13 W13 hB13 g13 hg13
 have fB13 := hB13.f fB12
 have z13 := hB13.below.size
 have b13_0 := hB13.b b12_0
 refine hK22 _ _ ?_
 have k13_1 := kt hg13 1 k12_1
 have k13_2 := kt hg13 2 k12_2
 have k13_11 := kt hg13 11 k12_11
 have k13_12 := kt hg13 12 k12_12
 have k13_4 := kt hg13 4 k12_4
 have k13_20 := kt hg13 20 k12_20
 have k13_13 := kt hg13 13 k12_13
 have k13_14 := kt hg13 14 k12_14
 have k13_5 := kt hg13 5 (hB13.is 3)
 have k13_6 := kt hg13 6 (hB13.is 4)
 refine wp_seq_k fun K23 hK23 => ?_
 refine region_dk 3 [(18, 0), (19, 1), (20, 2)] [[], [0], [0, 1]] (rel [is (.int .i64 2),
   is (.int .i64 0),
   is (.bool true)])
  ⟨is_k, is_k, is_k, trivial⟩
  ⟨fun f s W c d h j k a => opv rfl rfl (by simp [go_sem, a.e 5 k13_5]) rfl,
  fun f s W c d h j k a => by have qw_ := IntWalk.i64_in (0) (by decide); exact opv rfl rfl (by simp [go_sem, a.e 18 (d 0 rfl), qw_]) rfl,
  fun f s W c d h j k a => opv rfl rfl (by simp [go_sem, a.e 19 (d 1 rfl)]) rfl, trivial⟩ ?_
 intro f14 s14 W14 hB14 g14 hg14
 have fB14 := hB14.f fB13
 have z14 := hB14.below.size
 have b14_0 := hB14.b b13_0
 refine hK23 _ _ ?_
 have k14_1 := kt hg14 1 k13_1
 have k14_2 := kt hg14 2 k13_2
 have k14_11 := kt hg14 11 k13_11
 have k14_12 := kt hg14 12 k13_12
 have k14_4 := kt hg14 4 k13_4
 have k14_13 := kt hg14 13 k13_13
 have k14_14 := kt hg14 14 k13_14
 have k14_5 := kt hg14 5 k13_5
 have k14_6 := kt hg14 6 k13_6
 have k14_20 := kt hg14 20 (hB14.is 2)
 refine wp_cond_true ((fr_eval rfl).trans k14_20) ?_
 refine region_dk 12 [(21, 0), (22, 1), (23, 2), (24, 3), (25, 4), (26, 5), (27, 6), (28, 7), (29, 8), (30, 9), (31, 10), (4, 11)] [[], [], [], [2], [2, 3], [], [2, 3, 4, 5], [2, 3, 4, 5, 6], [2, 3, 4, 5, 6, 7], [1, 2, 3, 4, 5, 6, 7, 8], [0, 1, 2, 3, 4, 5, 6, 7, 8, 9], [0, 1, 2, 3, 4, 5, 6, 7, 8, 9, 10]] (rel [is (.int .i64 PA0.t2),
   is (.func (.func 39) #[] #[]),
   is (.pointer (some ⟨(s1 0), 2, none⟩)),
   is (.pointer (some ⟨(s1 0), 2, none⟩)),
   is (.slice (some ⟨bp, oP, none⟩) (np) (cp)),
   is (.int .i64 ((pa2 : Int))),
   is (.pointer (some ⟨bp, oP + pa2 * 8, none⟩)),
   is (.pointer (some ⟨bp, oP + pa2 * 8 + 2, none⟩)),
   is (.agg #[.int .i64 PA2.t1, .int .i64 PA2.t2]),
   is (.int .i64 PA2.t2),
   is (.int .i64 (PA0.t2 + PA2.t2)),
   is (.int .i64 (PA0.t2 + PA2.t2))])
  ⟨is_k, is_k, is_k, is_k, is_k, is_k, is_k, is_k, is_k, is_k, is_k, is_k, trivial⟩
  ⟨fun f s W c d h j k a => opv rfl rfl (by simp [go_sem, a.e 4 ((j 11 4 rfl rfl).trans k14_4)]) rfl,
  fun f s W c d h j k a => opv rfl rfl (by simp [go_sem, a.e 1 k14_1]) rfl,
  fun f s W c d h j k a => opv rfl rfl (by simp [go_sem, a.e 2 k14_2]) rfl,
  fun f s W c d h j k a => opv rfl rfl (by simp [go_sem, a.e 23 (d 2 rfl)]) rfl,
  fun f s W c d h j k a => opv rfl rfl (by simp [go_sem, a.e 24 (d 3 rfl), cb b14_0 c 2]) rfl,
  fun f s W c d h j k a => opv rfl rfl (by simp [go_sem, a.e 6 k14_6]) rfl,
  fun f s W c d h j k a => by have li_ := Nat.not_le.2 hpa2; have lz_ : (pa2 : Int) < (np : Int) := (by omega); exact opv rfl rfl (by simp [go_sem, a.e 25 (d 4 rfl), a.e 26 (d 5 rfl), li_, hpa2, lz_]) rfl,
  fun f s W c d h j k a => opv rfl rfl (by simp [go_sem, a.e 27 (d 6 rfl)]) rfl,
  fun f s W c d h j k a => by have l := below_trans fB14 c; have E_ := (hP.below l).2 pa2 hpa2; rw [epa2] at E_; obtain ⟨u0_, u1_, u2_, u3_, u4_, u5_, u6_, u7_⟩ := E_; have v0_ : W.cell? ⟨bp, oP + pa2 * 8 + 2, none⟩ = some (.int .i64 PA2.t1) := u2_; have v1_ : W.cell? ⟨bp, oP + pa2 * 8 + 2 + 1, none⟩ = some (.int .i64 PA2.t2) := u3_; exact opv rfl rfl (by simp [go_sem, a.e 28 (d 7 rfl), v0_, v1_]) rfl,
  fun f s W c d h j k a => opc rfl rfl (by simp [go_sem, a.e 29 (d 8 rfl), a.e 22 (d 1 rfl)]) (high_ok (PA2.t1) (PA2.t2) W),
  fun f s W c d h j k a => opv rfl rfl (by simp [go_sem, a.e 21 (d 0 rfl), a.e 30 (d 9 rfl), IntWalk.i64_in (PA0.t2 + PA2.t2) (by omega)]) rfl,
  fun f s W c d h j k a => opv rfl rfl (by simp [go_sem, a.e 31 (d 10 rfl)]) rfl, trivial⟩ ?_
 intro f15 s15 W15 hB15 g15 hg15
 have fB15 := hB15.f fB14
 have z15 := hB15.below.size
 have b15_0 := hB15.b b14_0
 refine wpOps_end ?_
 have k15_1 := kt hg15 1 k14_1
 have k15_2 := kt hg15 2 k14_2
 have k15_11 := kt hg15 11 k14_11
 have k15_12 := kt hg15 12 k14_12
 have k15_13 := kt hg15 13 k14_13
 have k15_14 := kt hg15 14 k14_14
 have k15_5 := kt hg15 5 k14_5
 have k15_6 := kt hg15 6 k14_6
 have k15_20 := kt hg15 20 k14_20
 have k15_4 := kt hg15 4 (hB15.is 11)
 refine inBlock_normal ?_
 refine hK21 _ _ ?_
 refine region_dk 2 [(32, 0), (13, 1)] [[], [0]] (rel [is (.int .i64 3),
   is (.int .i64 3)])
  ⟨is_k, is_k, trivial⟩
  ⟨fun f s W c d h j k a => opv rfl rfl (by simp [go_sem, a.e 13 ((j 1 13 rfl rfl).trans k15_13), IntWalk.i64_in (3) (by omega)]) rfl,
  fun f s W c d h j k a => opv rfl rfl (by simp [go_sem, a.e 32 (d 0 rfl)]) rfl, trivial⟩ ?_
 intro f16 s16 W16 hB16 g16 hg16
 have fB16 := hB16.f fB15
 have z16 := hB16.below.size
 have b16_0 := hB16.b b15_0
 refine wpOps_end ?_
 have k16_1 := kt hg16 1 k15_1
 have k16_2 := kt hg16 2 k15_2
 have k16_11 := kt hg16 11 k15_11
 have k16_12 := kt hg16 12 k15_12
 have k16_14 := kt hg16 14 k15_14
 have k16_5 := kt hg16 5 k15_5
 have k16_6 := kt hg16 6 k15_6
 have k16_20 := kt hg16 20 k15_20
 have k16_4 := kt hg16 4 k15_4
 have k16_13 := kt hg16 13 (hB16.is 1)
 refine then_normal ?_
 rw [rounds_succ]
 refine wp_seq_k fun K25 hK25 => ?_
 refine region_dk 1 [(14, 0)] [[]] (rel [is (.bool false)])
  ⟨is_k, trivial⟩
  ⟨fun f s W c d h j k a => opv rfl rfl (by simp [go_sem, a.e 13 k16_13, a.e 12 k16_12]) rfl, trivial⟩ ?_
 intro f17 s17 W17 hB17 g17 hg17
 have fB17 := hB17.f fB16
 have z17 := hB17.below.size
 have b17_0 := hB17.b b16_0
 refine hK25 _ _ ?_
 have k17_1 := kt hg17 1 k16_1
 have k17_2 := kt hg17 2 k16_2
 have k17_11 := kt hg17 11 k16_11
 have k17_12 := kt hg17 12 k16_12
 have k17_5 := kt hg17 5 k16_5
 have k17_6 := kt hg17 6 k16_6
 have k17_20 := kt hg17 20 k16_20
 have k17_4 := kt hg17 4 k16_4
 have k17_13 := kt hg17 13 k16_13
 have k17_14 := kt hg17 14 (hB17.is 0)
 refine wp_seq_k fun K26 hK26 => ?_
 refine wp_cond_false ((fr_eval rfl).trans k17_14) ?_
 refine wp_exit ?_
 refine then_exit ?_
 refine then_exit ?_
 refine inBlock_at ?_
 refine hK2 _ _ ?_
 refine wp_seq_k fun K28 hK28 => ?_
 refine wp_seq_k fun K29 hK29 => ?_
 refine region_dk 5 [(33, 0), (34, 1), (35, 2), (36, 3), (37, 4)] [[], [0], [0, 1], [0, 1, 2], []] (rel [is (.pointer (some ⟨(s1 0), 0, none⟩)),
   is (.pointer (some ⟨(s1 0), 1, none⟩)),
   is (.slice (some ⟨tf, uf, none⟩) (1) (cf)),
   is (.int .i64 1),
   is (.int .i64 0)])
  ⟨is_k, is_k, is_k, is_k, is_k, trivial⟩
  ⟨fun f s W c d h j k a => opv rfl rfl (by simp [go_sem, a.e 2 k17_2]) rfl,
  fun f s W c d h j k a => opv rfl rfl (by simp [go_sem, a.e 33 (d 0 rfl)]) rfl,
  fun f s W c d h j k a => opv rfl rfl (by simp [go_sem, a.e 34 (d 1 rfl), cb b17_0 c 1]) rfl,
  fun f s W c d h j k a => opv rfl rfl (by simp [go_sem, a.e 35 (d 2 rfl)]) rfl,
  fun f s W c d h j k a => opv rfl rfl (by simp [go_sem]) rfl, trivial⟩ ?_
 intro f18 s18 W18 hB18 g18 hg18
 have fB18 := hB18.f fB17
 have z18 := hB18.below.size
 have b18_0 := hB18.b b17_0
 refine hK29 _ _ ?_
 have k18_1 := kt hg18 1 k17_1
 have k18_2 := kt hg18 2 k17_2
 have k18_4 := kt hg18 4 k17_4
 have k18_35 := kt hg18 35 (hB18.is 2)
 have k18_36 := kt hg18 36 (hB18.is 3)
 have k18_37 := kt hg18 37 (hB18.is 4)
 refine wp_block ?_
 refine wp_loop_rounds 2 ?_
 rw [rounds_succ]
 refine wp_seq_k fun K30 hK30 => ?_
 refine region_dk 1 [(38, 0)] [[]] (rel [is (.bool true)])
  ⟨is_k, trivial⟩
  ⟨fun f s W c d h j k a => opv rfl rfl (by simp [go_sem, a.e 37 k18_37, a.e 36 k18_36]) rfl, trivial⟩ ?_
 intro f19 s19 W19 hB19 g19 hg19
 have fB19 := hB19.f fB18
 have z19 := hB19.below.size
 have b19_0 := hB19.b b18_0
 refine hK30 _ _ ?_
 have k19_1 := kt hg19 1 k18_1
 have k19_2 := kt hg19 2 k18_2
 have k19_4 := kt hg19 4 k18_4
 have k19_35 := kt hg19 35 k18_35
 have k19_36 := kt hg19 36 k18_36
 have k19_37 := kt hg19 37 k18_37
 have k19_38 := kt hg19 38 (hB19.is 0)
 refine wp_seq_k fun K31 hK31 => ?_
 refine wp_cond_true ((fr_eval rfl).trans k19_38) ?_
 refine wp_skip ?_
 refine hK31 _ _ ?_
 refine wp_seq_k fun K33 hK33 => ?_
 refine wp_block ?_
 refine wp_seq_k fun K34 hK34 => ?_
 refine region_dk 3 [(39, 0), (40, 1), (8, 2)] [[], [0], [0, 1]] (rel [is (.pointer (some ⟨tf, uf, none⟩)),
   is (.int .i64 ((fa0 : Int))),
   is (.int .i64 ((fa0 : Int)))])
  ⟨is_k, is_k, is_k, trivial⟩
  ⟨fun f s W c d h j k a => opv rfl rfl (by simp [go_sem, a.e 35 k19_35, a.e 37 k19_37]) rfl,
  fun f s W c d h j k a => by have l := below_trans fB19 c; have cu : W.cell? ⟨tf, uf, none⟩ = some (.int .i64 (fa0 : Int)) := ii_cell (hF.below l (Nat.le_refl _)) 0 (by simp); exact opv rfl rfl (by simp [go_sem, a.e 39 (d 0 rfl), cu]) rfl,
  fun f s W c d h j k a => opv rfl rfl (by simp [go_sem, a.e 40 (d 1 rfl)]) rfl, trivial⟩ ?_
 intro f20 s20 W20 hB20 g20 hg20
 have fB20 := hB20.f fB19
 have z20 := hB20.below.size
 have b20_0 := hB20.b b19_0
 refine hK34 _ _ ?_
 have k20_1 := kt hg20 1 k19_1
 have k20_2 := kt hg20 2 k19_2
 have k20_4 := kt hg20 4 k19_4
 have k20_35 := kt hg20 35 k19_35
 have k20_36 := kt hg20 36 k19_36
 have k20_37 := kt hg20 37 k19_37
 have k20_38 := kt hg20 38 k19_38
 have k20_8 := kt hg20 8 (hB20.is 2)
 refine region_dk 12 [(41, 0), (42, 1), (43, 2), (44, 3), (45, 4), (46, 5), (47, 6), (48, 7), (49, 8), (50, 9), (51, 10), (4, 11)] [[], [], [], [2], [2, 3], [], [2, 3, 4, 5], [2, 3, 4, 5, 6], [2, 3, 4, 5, 6, 7], [1, 2, 3, 4, 5, 6, 7, 8], [0, 1, 2, 3, 4, 5, 6, 7, 8, 9], [0, 1, 2, 3, 4, 5, 6, 7, 8, 9, 10]] (rel [is (.int .i64 (PA0.t2 + PA2.t2)),
   is (.func (.func 39) #[] #[]),
   is (.pointer (some ⟨(s1 0), 2, none⟩)),
   is (.pointer (some ⟨(s1 0), 3, none⟩)),
   is (.slice (some ⟨bq, oq, none⟩) (nq) (cq)),
   is (.int .i64 ((fa0 : Int))),
   is (.pointer (some ⟨bq, oq + fa0 * 4, none⟩)),
   is (.pointer (some ⟨bq, oq + fa0 * 4 + 2, none⟩)),
   is (.agg #[.int .i64 FA0.h1, .int .i64 FA0.h2]),
   is (.int .i64 FA0.h2),
   is (.int .i64 ((PA0.t2 + PA2.t2) + FA0.h2)),
   is (.int .i64 ((PA0.t2 + PA2.t2) + FA0.h2))])
  ⟨is_k, is_k, is_k, is_k, is_k, is_k, is_k, is_k, is_k, is_k, is_k, is_k, trivial⟩
  ⟨fun f s W c d h j k a => opv rfl rfl (by simp [go_sem, a.e 4 ((j 11 4 rfl rfl).trans k20_4)]) rfl,
  fun f s W c d h j k a => opv rfl rfl (by simp [go_sem, a.e 1 k20_1]) rfl,
  fun f s W c d h j k a => opv rfl rfl (by simp [go_sem, a.e 2 k20_2]) rfl,
  fun f s W c d h j k a => opv rfl rfl (by simp [go_sem, a.e 43 (d 2 rfl)]) rfl,
  fun f s W c d h j k a => opv rfl rfl (by simp [go_sem, a.e 44 (d 3 rfl), cb b20_0 c 3]) rfl,
  fun f s W c d h j k a => opv rfl rfl (by simp [go_sem, a.e 8 k20_8]) rfl,
  fun f s W c d h j k a => by have li_ := Nat.not_le.2 hfa0; have lz_ : (fa0 : Int) < (nq : Int) := (by omega); exact opv rfl rfl (by simp [go_sem, a.e 45 (d 4 rfl), a.e 46 (d 5 rfl), li_, hfa0, lz_]) rfl,
  fun f s W c d h j k a => opv rfl rfl (by simp [go_sem, a.e 47 (d 6 rfl)]) rfl,
  fun f s W c d h j k a => by have l := below_trans fB20 c; have E_ := (hQ.below l).2 fa0 hfa0; rw [efa0] at E_; obtain ⟨u0_, u1_, u2_, u3_⟩ := E_; have v0_ : W.cell? ⟨bq, oq + fa0 * 4 + 2, none⟩ = some (.int .i64 FA0.h1) := u2_; have v1_ : W.cell? ⟨bq, oq + fa0 * 4 + 2 + 1, none⟩ = some (.int .i64 FA0.h2) := u3_; exact opv rfl rfl (by simp [go_sem, a.e 48 (d 7 rfl), v0_, v1_]) rfl,
  fun f s W c d h j k a => opc rfl rfl (by simp [go_sem, a.e 49 (d 8 rfl), a.e 42 (d 1 rfl)]) (high_ok (FA0.h1) (FA0.h2) W),
  fun f s W c d h j k a => opv rfl rfl (by simp [go_sem, a.e 41 (d 0 rfl), a.e 50 (d 9 rfl), IntWalk.i64_in ((PA0.t2 + PA2.t2) + FA0.h2) (by omega)]) rfl,
  fun f s W c d h j k a => opv rfl rfl (by simp [go_sem, a.e 51 (d 10 rfl)]) rfl, trivial⟩ ?_
 intro f21 s21 W21 hB21 g21 hg21
 have fB21 := hB21.f fB20
 have z21 := hB21.below.size
 have b21_0 := hB21.b b20_0
 refine wpOps_end ?_
 have k21_1 := kt hg21 1 k20_1
 have k21_2 := kt hg21 2 k20_2
 have k21_35 := kt hg21 35 k20_35
 have k21_36 := kt hg21 36 k20_36
 have k21_37 := kt hg21 37 k20_37
 have k21_38 := kt hg21 38 k20_38
 have k21_8 := kt hg21 8 k20_8
 have k21_4 := kt hg21 4 (hB21.is 11)
 refine inBlock_normal ?_
 refine hK33 _ _ ?_
 refine region_dk 2 [(52, 0), (37, 1)] [[], [0]] (rel [is (.int .i64 1),
   is (.int .i64 1)])
  ⟨is_k, is_k, trivial⟩
  ⟨fun f s W c d h j k a => opv rfl rfl (by simp [go_sem, a.e 37 ((j 1 37 rfl rfl).trans k21_37), IntWalk.i64_in (1) (by omega)]) rfl,
  fun f s W c d h j k a => opv rfl rfl (by simp [go_sem, a.e 52 (d 0 rfl)]) rfl, trivial⟩ ?_
 intro f22 s22 W22 hB22 g22 hg22
 have fB22 := hB22.f fB21
 have z22 := hB22.below.size
 have b22_0 := hB22.b b21_0
 refine wpOps_end ?_
 have k22_1 := kt hg22 1 k21_1
 have k22_2 := kt hg22 2 k21_2
 have k22_35 := kt hg22 35 k21_35
 have k22_36 := kt hg22 36 k21_36
 have k22_38 := kt hg22 38 k21_38
 have k22_8 := kt hg22 8 k21_8
 have k22_4 := kt hg22 4 k21_4
 have k22_37 := kt hg22 37 (hB22.is 1)
 refine then_normal ?_
 rw [rounds_succ]
 refine wp_seq_k fun K35 hK35 => ?_
 refine region_dk 1 [(38, 0)] [[]] (rel [is (.bool false)])
  ⟨is_k, trivial⟩
  ⟨fun f s W c d h j k a => opv rfl rfl (by simp [go_sem, a.e 37 k22_37, a.e 36 k22_36]) rfl, trivial⟩ ?_
 intro f23 s23 W23 hB23 g23 hg23
 have fB23 := hB23.f fB22
 have z23 := hB23.below.size
 have b23_0 := hB23.b b22_0
 refine hK35 _ _ ?_
 have k23_1 := kt hg23 1 k22_1
 have k23_2 := kt hg23 2 k22_2
 have k23_35 := kt hg23 35 k22_35
 have k23_36 := kt hg23 36 k22_36
 have k23_8 := kt hg23 8 k22_8
 have k23_4 := kt hg23 4 k22_4
 have k23_37 := kt hg23 37 k22_37
 have k23_38 := kt hg23 38 (hB23.is 0)
 refine wp_seq_k fun K36 hK36 => ?_
 refine wp_cond_false ((fr_eval rfl).trans k23_38) ?_
 refine wp_exit ?_
 refine then_exit ?_
 refine then_exit ?_
 refine inBlock_at ?_
 refine hK28 _ _ ?_
 refine wp_seq_k fun K38 hK38 => ?_
 refine region_dk 2 [(53, 0), (4, 1)] [[], [0]] (rel [is (.int .i64 ((PA0.t2 + PA2.t2) + FA0.h2)),
   is (.int .i64 ((PA0.t2 + PA2.t2) + FA0.h2))])
  ⟨is_k, is_k, trivial⟩
  ⟨fun f s W c d h j k a => opv rfl rfl (by simp [go_sem, a.e 4 ((j 1 4 rfl rfl).trans k23_4)]) rfl,
  fun f s W c d h j k a => opv rfl rfl (by simp [go_sem, a.e 53 (d 0 rfl)]) rfl, trivial⟩ ?_
 intro f24 s24 W24 hB24 g24 hg24
 have fB24 := hB24.f fB23
 have z24 := hB24.below.size
 have b24_0 := hB24.b b23_0
 refine hK38 _ _ ?_
 have k24_4 := kt hg24 4 (hB24.is 1)
 refine wp_ret ?_
 refine leave_one (N := 54) (v := .int .i64 ((PA0.t2 + PA2.t2) + FA0.h2)) (.inr rfl) Try.results41 rfl k24_4 ?_
 exact ⟨rfl, fB24⟩
end Go.Proofs.Ytiocklgakklkpaa
