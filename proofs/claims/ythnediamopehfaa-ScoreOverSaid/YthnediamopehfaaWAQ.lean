/- Part of the proof: what the claim leans on. -/
import Derived.Test.YthnediamopehfaaWAM
import Derived.Test.YthnediamopehfaaWAB
import Derived.Test.YthnediamopehfaaWAP
set_option linter.unusedSimpArgs false
set_option linter.unusedVariables false
namespace Go.Proofs.Ythnediamopehfaa
open Go.RowKit
def dn (n : Int) : Int := n / 1000
def upw (n : Int) : Int := (n + 999) / 1000
set_option maxRecDepth 100000 in
set_option maxHeartbeats 400000 in
theorem down_pos (n : Int) (w : World) (h0 : 0 ≤ n) (jb : n ≤ 1000000000) :
  Calls Try.prog 27 #[.int .i64 n] w (fun e w' => e = .returned (.int .i64 (dn n)) ∧ Below w.heap.size w w') := by
 have hn : decide (n < 0) = false := decide_eq_false (by omega)
 refine calls_fr Try.func27 Try.ntmps27 rfl rfl fun g hg => ?_
 have k0 : g 0 = .int .i64 n := hg 0
 clear hg
 have fB0 : Below w.heap.size w w := Below.refl _ _
 refine wp_seq_k fun K1 hK1 => ?_
 refine region_dk 1 [(2, 0)] [[]] (rel [is (.int .i64 0)])
  ⟨is_k, trivial⟩
  ⟨fun f s W b c d h i a => opv rfl rfl (by simp [go_sem]) rfl, trivial⟩ ?_
 intro f1 s1 W1 hB1 g1 hg1
 have fB1 := hB1.f fB0
 have z1 := hB1.below.size
 refine hK1 _ _ ?_
 have k1_0 := kt hg1 0 k0
 have k1_2 := kt hg1 2 (hB1.is 0)
 refine wp_seq_k fun K2 hK2 => ?_
 refine wp_seq_k fun K3 hK3 => ?_
 refine region_dk 2 [(3, 0), (4, 1)] [[], [0]] (rel [is (.int .i64 n),
   is (.bool (decide (n < 0)))])
  ⟨is_k, is_k, trivial⟩
  ⟨fun f s W b c d h i a => opv rfl rfl (by simp [go_sem, a.e 0 k1_0]) rfl,
  fun f s W b c d h i a => opv rfl rfl (by simp [go_sem, a.e 3 (c 0 rfl)]) rfl, trivial⟩ ?_
 intro f2 s2 W2 hB2 g2 hg2
 have fB2 := hB2.f fB1
 have z2 := hB2.below.size
 refine hK3 _ _ ?_
 have k2_0 := kt hg2 0 k1_0
 have k2_2 := kt hg2 2 k1_2
 have k2_4 := kt hg2 4 (hB2.is 1)
 have hc4 : (fr 11 g2).eval (.tmp 4) = .bool false := ((fr_eval rfl).trans k2_4).trans (by rw [hn])
 refine wp_cond_false (hc4) ?_
 refine wp_skip ?_
 refine hK2 _ _ ?_
 refine wp_seq_k fun K5 hK5 => ?_
 refine region_dk 3 [(9, 0), (10, 1), (2, 2)] [[], [0], [0, 1]] (rel [is (.int .i64 n),
   is (.int .i64 (n / 1000)),
   is (.int .i64 (n / 1000))])
  ⟨is_k, is_k, is_k, trivial⟩
  ⟨fun f s W b c d h i a => opv rfl rfl (by simp [go_sem, a.e 0 k2_0]) rfl,
  fun f s W b c d h i a => by have qu_ : (n).tdiv 1000 = n / 1000 := Int.tdiv_eq_ediv_of_nonneg (by omega); have qw_ := IntWalk.i64_in (n / 1000) (by omega); exact opv rfl rfl (by simp [go_sem, a.e 9 (c 0 rfl), qu_, qw_]) rfl,
  fun f s W b c d h i a => opv rfl rfl (by simp [go_sem, a.e 10 (c 1 rfl)]) rfl, trivial⟩ ?_
 intro f3 s3 W3 hB3 g3 hg3
 have fB3 := hB3.f fB2
 have z3 := hB3.below.size
 refine hK5 _ _ ?_
 have k3_2 := kt hg3 2 (hB3.is 2)
 refine wp_ret ?_
 refine leave_one (N := 11) (v := .int .i64 (n / 1000)) (.inr rfl) Try.results27 rfl k3_2 ?_
 exact ⟨rfl, fB3⟩
set_option maxRecDepth 100000 in
set_option maxHeartbeats 400000 in
theorem up_pos (n : Int) (w : World) (h0 : 0 ≤ n) (jb : n ≤ 1000000000) :
  Calls Try.prog 44 #[.int .i64 n] w (fun e w' => e = .returned (.int .i64 (upw n)) ∧ Below w.heap.size w w') := by
 have hn : decide (n < 0) = false := decide_eq_false (by omega)
 refine calls_fr Try.func44 Try.ntmps44 rfl rfl fun g hg => ?_
 have k0 : g 0 = .int .i64 n := hg 0
 clear hg
 have fB0 : Below w.heap.size w w := Below.refl _ _
 refine wp_seq_k fun K1 hK1 => ?_
 refine region_dk 1 [(2, 0)] [[]] (rel [is (.int .i64 0)])
  ⟨is_k, trivial⟩
  ⟨fun f s W b c d h i a => opv rfl rfl (by simp [go_sem]) rfl, trivial⟩ ?_
 intro f1 s1 W1 hB1 g1 hg1
 have fB1 := hB1.f fB0
 have z1 := hB1.below.size
 refine hK1 _ _ ?_
 have k1_0 := kt hg1 0 k0
 have k1_2 := kt hg1 2 (hB1.is 0)
 refine wp_seq_k fun K2 hK2 => ?_
 refine wp_seq_k fun K3 hK3 => ?_
 refine region_dk 2 [(3, 0), (4, 1)] [[], [0]] (rel [is (.int .i64 n),
   is (.bool (decide (n < 0)))])
  ⟨is_k, is_k, trivial⟩
  ⟨fun f s W b c d h i a => opv rfl rfl (by simp [go_sem, a.e 0 k1_0]) rfl,
  fun f s W b c d h i a => opv rfl rfl (by simp [go_sem, a.e 3 (c 0 rfl)]) rfl, trivial⟩ ?_
 intro f2 s2 W2 hB2 g2 hg2
 have fB2 := hB2.f fB1
 have z2 := hB2.below.size
 refine hK3 _ _ ?_
 have k2_0 := kt hg2 0 k1_0
 have k2_2 := kt hg2 2 k1_2
 have k2_4 := kt hg2 4 (hB2.is 1)
 have hc4 : (fr 12 g2).eval (.tmp 4) = .bool false := ((fr_eval rfl).trans k2_4).trans (by rw [hn])
 refine wp_cond_false (hc4) ?_
 refine wp_skip ?_
 refine hK2 _ _ ?_
 refine wp_seq_k fun K5 hK5 => ?_
 refine region_dk 4 [(9, 0), (10, 1), (11, 2), (2, 3)] [[], [0], [0, 1], [0, 1, 2]] (rel [is (.int .i64 n),
   is (.int .i64 (n + 999)),
   is (.int .i64 ((n + 999) / 1000)),
   is (.int .i64 ((n + 999) / 1000))])
  ⟨is_k, is_k, is_k, is_k, trivial⟩
  ⟨fun f s W b c d h i a => opv rfl rfl (by simp [go_sem, a.e 0 k2_0]) rfl,
  fun f s W b c d h i a => opv rfl rfl (by simp [go_sem, a.e 9 (c 0 rfl), IntWalk.i64_in (n + 999) (by omega)]) rfl,
  fun f s W b c d h i a => by have qu_ : (n + 999).tdiv 1000 = (n + 999) / 1000 := Int.tdiv_eq_ediv_of_nonneg (by omega); have qw_ := IntWalk.i64_in ((n + 999) / 1000) (by omega); exact opv rfl rfl (by simp [go_sem, a.e 10 (c 1 rfl), qu_, qw_]) rfl,
  fun f s W b c d h i a => opv rfl rfl (by simp [go_sem, a.e 11 (c 2 rfl)]) rfl, trivial⟩ ?_
 intro f3 s3 W3 hB3 g3 hg3
 have fB3 := hB3.f fB2
 have z3 := hB3.below.size
 refine hK5 _ _ ?_
 have k3_2 := kt hg3 2 (hB3.is 3)
 refine wp_ret ?_
 refine leave_one (N := 12) (v := .int .i64 ((n + 999) / 1000)) (.inr rfl) Try.results44 rfl k3_2 ?_
 exact ⟨rfl, fB3⟩
set_option maxRecDepth 100000 in
set_option maxHeartbeats 400000 in
theorem down_neg (n : Int) (w : World) (h0 : n < 0) (ja : -1000000000 ≤ n) :
  Calls Try.prog 27 #[.int .i64 n] w (fun e w' => e = .returned (.int .i64 (dn n)) ∧ Below w.heap.size w w') := by
 have hn : decide (n < 0) = true := decide_eq_true h0
 have hu : 0 ≤ upw (-n) ∧ upw (-n) ≤ 1000001 := by unfold upw; omega
 refine calls_fr Try.func27 Try.ntmps27 rfl rfl fun g hg => ?_
 have k0 : g 0 = .int .i64 n := hg 0
 clear hg
 have fB0 : Below w.heap.size w w := Below.refl _ _
 refine wp_seq_k fun K1 hK1 => ?_
 refine region_dk 1 [(2, 0)] [[]] (rel [is (.int .i64 0)])
  ⟨is_k, trivial⟩
  ⟨fun f s W b c d h i a => opv rfl rfl (by simp [go_sem]) rfl, trivial⟩ ?_
 intro f1 s1 W1 hB1 g1 hg1
 have fB1 := hB1.f fB0
 have z1 := hB1.below.size
 refine hK1 _ _ ?_
 have k1_0 := kt hg1 0 k0
 have k1_2 := kt hg1 2 (hB1.is 0)
 refine wp_seq_k fun K2 hK2 => ?_
 refine wp_seq_k fun K3 hK3 => ?_
 refine region_dk 2 [(3, 0), (4, 1)] [[], [0]] (rel [is (.int .i64 n),
   is (.bool (decide (n < 0)))])
  ⟨is_k, is_k, trivial⟩
  ⟨fun f s W b c d h i a => opv rfl rfl (by simp [go_sem, a.e 0 k1_0]) rfl,
  fun f s W b c d h i a => opv rfl rfl (by simp [go_sem, a.e 3 (c 0 rfl)]) rfl, trivial⟩ ?_
 intro f2 s2 W2 hB2 g2 hg2
 have fB2 := hB2.f fB1
 have z2 := hB2.below.size
 refine hK3 _ _ ?_
 have k2_0 := kt hg2 0 k1_0
 have k2_2 := kt hg2 2 k1_2
 have k2_4 := kt hg2 4 (hB2.is 1)
 have hc4 : (fr 11 g2).eval (.tmp 4) = .bool true := ((fr_eval rfl).trans k2_4).trans (by rw [hn])
 refine wp_cond_true (hc4) ?_
 refine wp_seq_k fun K5 hK5 => ?_
 refine region_dk 5 [(5, 0), (6, 1), (7, 2), (8, 3), (2, 4)] [[], [0], [0, 1], [0, 1, 2], [0, 1, 2, 3]] (rel [is (.int .i64 n),
   is (.int .i64 (-n)),
   is (.int .i64 (upw (-n))),
   is (.int .i64 (-(upw (-n)))),
   is (.int .i64 (-(upw (-n))))])
  ⟨is_k, is_k, is_k, is_k, is_k, trivial⟩
  ⟨fun f s W b c d h i a => opv rfl rfl (by simp [go_sem, a.e 0 k2_0]) rfl,
  fun f s W b c d h i a => opv rfl rfl (by simp [go_sem, a.e 5 (c 0 rfl), IntWalk.i64_in (-n) (by omega)]) rfl,
  fun f s W b c d h i a => opc rfl rfl (by simp [go_sem, a.e 6 (c 1 rfl)]) (up_pos (-n) W (by omega) (by omega)),
  fun f s W b c d h i a => opv rfl rfl (by simp [go_sem, a.e 7 (c 2 rfl), IntWalk.i64_in (-(upw (-n))) (by omega)]) rfl,
  fun f s W b c d h i a => opv rfl rfl (by simp [go_sem, a.e 8 (c 3 rfl)]) rfl, trivial⟩ ?_
 intro f3 s3 W3 hB3 g3 hg3
 have fB3 := hB3.f fB2
 have z3 := hB3.below.size
 refine hK5 _ _ ?_
 have k3_0 := kt hg3 0 k2_0
 have k3_2 := kt hg3 2 (hB3.is 4)
 refine wp_ret ?_
 refine then_ret ?_
 refine leave_one (N := 11) (v := .int .i64 (-(upw (-n)))) (.inr rfl) Try.results27 rfl k3_2 ?_
 exact ⟨congrArg (fun x => Ending.returned (.int .i64 x)) (by unfold dn upw; omega), fB3⟩
theorem dn_any (n : Int) (w : World) (ja : -1000000000 ≤ n) (jb : n ≤ 1000000000) : Calls Try.prog 27 #[.int .i64 n] w (fun e w' => e = .returned (.int .i64 (dn n)) ∧ Below w.heap.size w w') := by
  by_cases h : n < 0
  · exact down_neg n w h ja
  · exact down_pos n w (by omega) jb
def shCal (x : Sh) : Sp := (1500 + 20 * x.ca, 1500 + 20 * x.ca + 2 * x.cb)
set_option maxRecDepth 100000 in
set_option maxHeartbeats 400000 in
theorem shCal_any (x0 x1 x2 x3 xh y0 y1 y2 y3 : Int) (xo : Bool) (ca cb v0 v1 v2 v3 v4 : Int) (w : World) (gx0 : 0 ≤ x0 ∧ x0 ≤ 255) (gx1 : 0 ≤ x1 ∧ x1 ≤ 255) (gx2 : 0 ≤ x2 ∧ x2 ≤ 255) (gx3 : 0 ≤ x3 ∧ x3 ≤ 255) (gxh : 0 ≤ xh ∧ xh ≤ 255) (gy0 : 0 ≤ y0 ∧ y0 ≤ 255) (gy1 : 0 ≤ y1 ∧ y1 ≤ 255) (gy2 : 0 ≤ y2 ∧ y2 ≤ 255) (gy3 : 0 ≤ y3 ∧ y3 ≤ 255) (gca : 0 ≤ ca ∧ ca ≤ 255) (gcb : 0 ≤ cb ∧ cb ≤ 255) (gv0 : 0 ≤ v0 ∧ v0 ≤ 255) (gv1 : 0 ≤ v1 ∧ v1 ≤ 255) (gv2 : 0 ≤ v2 ∧ v2 ≤ 255) (gv3 : 0 ≤ v3 ∧ v3 ≤ 255) (gv4 : 0 ≤ v4 ∧ v4 ≤ 255) :
  Calls Try.prog 25 #[.agg #[.int .u8 x0, .int .u8 x1, .int .u8 x2, .int .u8 x3, .int .u8 xh, .int .u8 y0, .int .u8 y1, .int .u8 y2, .int .u8 y3, .bool xo, .int .u8 ca, .int .u8 cb, .int .u8 v0, .int .u8 v1, .int .u8 v2, .int .u8 v3, .int .u8 v4]] w (fun e w' => e = .returned (.agg #[.int .i64 (shCal ⟨x0, x1, x2, x3, xh, y0, y1, y2, y3, xo, ca, cb, v0, v1, v2, v3, v4⟩).1, .int .i64 (shCal ⟨x0, x1, x2, x3, xh, y0, y1, y2, y3, xo, ca, cb, v0, v1, v2, v3, v4⟩).2]) ∧ Below w.heap.size w w') := by
 refine calls_fr Try.func25 Try.ntmps25 rfl rfl fun g hg => ?_
 have k0 : g 0 = .agg #[.int .u8 x0, .int .u8 x1, .int .u8 x2, .int .u8 x3, .int .u8 xh, .int .u8 y0, .int .u8 y1, .int .u8 y2, .int .u8 y3, .bool xo, .int .u8 ca, .int .u8 cb, .int .u8 v0, .int .u8 v1, .int .u8 v2, .int .u8 v3, .int .u8 v4] := hg 0
 clear hg
 have fB0 : Below w.heap.size w w := Below.refl _ _
 refine wp_seq_k fun K1 hK1 => ?_
 refine region_dk 2 [(1, 0), (2, 1)] [[], []] (rel [bx 0 #[.int .u8 x0, .int .u8 x1, .int .u8 x2, .int .u8 x3, .int .u8 xh, .int .u8 y0, .int .u8 y1, .int .u8 y2, .int .u8 y3, .bool xo, .int .u8 ca, .int .u8 cb, .int .u8 v0, .int .u8 v1, .int .u8 v2, .int .u8 v3, .int .u8 v4] 56,
   bx 1 #[.int .i64 0, .int .i64 0] 37])
  ⟨bx_k, bx_k, trivial⟩
  ⟨fun f s W c d h i j a => opb rfl rfl (by simp [go_sem, a.e 0 k0]),
  fun f s W c d h i j a => opb rfl rfl (by simp [go_sem]), trivial⟩ ?_
 intro f1 s1 W1 hB1 g1 hg1
 have fB1 := hB1.f fB0
 have z1 := hB1.below.size
 obtain ⟨r1_0, br1_0⟩ := hB1.is 0
 have lr1_0 := hB1.lr 0 br1_0
 obtain ⟨r1_1, br1_1⟩ := hB1.is 1
 have lr1_1 := hB1.lr 1 br1_1
 have ne1_0_1 := hB1.nb 0 1
 refine hK1 _ _ ?_
 have k1_1 := kt hg1 1 r1_0
 have k1_2 := kt hg1 2 r1_1
 refine wp_seq_k fun K2 hK2 => ?_
 refine region_dk 7 [(4, 0), (5, 1), (6, 2), (7, 3), (8, 4), (9, 5), (3, 6)] [[], [0], [0, 1], [0, 1, 2], [0, 1, 2, 3], [0, 1, 2, 3, 4], [0, 1, 2, 3, 4, 5]] (rel [is (.pointer (some ⟨(s1 0), 10, none⟩)),
   is (.pointer (some ⟨(s1 0), 10, none⟩)),
   is (.int .u8 ca),
   is (.int .i64 ca),
   is (.int .i64 (20 * ca)),
   is (.int .i64 (1500 + (20 * ca))),
   is (.int .i64 (1500 + (20 * ca)))])
  ⟨is_k, is_k, is_k, is_k, is_k, is_k, is_k, trivial⟩
  ⟨fun f s W c d h i j a => opv rfl rfl (by simp [go_sem, a.e 1 k1_1]) rfl,
  fun f s W c d h i j a => opv rfl rfl (by simp [go_sem, a.e 4 (d 0 rfl)]) rfl,
  fun f s W c d h i j a => opv rfl rfl (by simp [go_sem, a.e 5 (d 1 rfl), cl (blk_below br1_0 c) 10]) rfl,
  fun f s W c d h i j a => by have cv_ := IntWalk.i64_in ca (by omega); exact opv rfl rfl (by simp [go_sem, a.e 6 (d 2 rfl), cv_]) rfl,
  fun f s W c d h i j a => opv rfl rfl (by simp [go_sem, a.e 7 (d 3 rfl), IntWalk.i64_in (20 * ca) (by omega)]) rfl,
  fun f s W c d h i j a => opv rfl rfl (by simp [go_sem, a.e 8 (d 4 rfl), IntWalk.i64_in (1500 + (20 * ca)) (by omega)]) rfl,
  fun f s W c d h i j a => opv rfl rfl (by simp [go_sem, a.e 9 (d 5 rfl)]) rfl, trivial⟩ ?_
 intro f2 s2 W2 hB2 g2 hg2
 have fB2 := hB2.f fB1
 have z2 := hB2.below.size
 have b2_0 := hB2.b br1_0
 have b2_1 := hB2.b br1_1
 refine hK2 _ _ ?_
 have k2_1 := kt hg2 1 k1_1
 have k2_2 := kt hg2 2 k1_2
 have k2_3 := kt hg2 3 (hB2.is 6)
 refine wp_seq_k fun K3 hK3 => ?_
 refine region_dk 9 [(10, 0), (11, 1), (12, 2), (13, 3), (14, 4), (15, 5), (16, 6), (17, 7), (18, 8)] [[], [], [], [2], [2, 3], [2, 3, 4], [2, 3, 4, 5], [1, 2, 3, 4, 5, 6], [0, 1, 2, 3, 4, 5, 6, 7], [0, 1, 2, 3, 4, 5, 6, 7, 8]] (rel [is (.int .i64 (1500 + (20 * ca))),
   is (.int .i64 (1500 + (20 * ca))),
   is (.pointer (some ⟨(s1 0), 10, none⟩)),
   is (.pointer (some ⟨(s1 0), 11, none⟩)),
   is (.int .u8 cb),
   is (.int .i64 cb),
   is (.int .i64 (2 * cb)),
   is (.int .i64 ((1500 + (20 * ca)) + (2 * cb))),
   is (.agg #[.int .i64 (1500 + (20 * ca)), .int .i64 ((1500 + (20 * ca)) + (2 * cb))])])
  ⟨is_k, is_k, is_k, is_k, is_k, is_k, is_k, is_k, is_k, trivial⟩
  ⟨fun f s W c d h i j a => opv rfl rfl (by simp [go_sem, a.e 3 k2_3]) rfl,
  fun f s W c d h i j a => opv rfl rfl (by simp [go_sem, a.e 3 k2_3]) rfl,
  fun f s W c d h i j a => opv rfl rfl (by simp [go_sem, a.e 1 k2_1]) rfl,
  fun f s W c d h i j a => opv rfl rfl (by simp [go_sem, a.e 12 (d 2 rfl)]) rfl,
  fun f s W c d h i j a => opv rfl rfl (by simp [go_sem, a.e 13 (d 3 rfl), cl (blk_below b2_0 c) 11]) rfl,
  fun f s W c d h i j a => by have cv_ := IntWalk.i64_in cb (by omega); exact opv rfl rfl (by simp [go_sem, a.e 14 (d 4 rfl), cv_]) rfl,
  fun f s W c d h i j a => opv rfl rfl (by simp [go_sem, a.e 15 (d 5 rfl), IntWalk.i64_in (2 * cb) (by omega)]) rfl,
  fun f s W c d h i j a => opv rfl rfl (by simp [go_sem, a.e 11 (d 1 rfl), a.e 16 (d 6 rfl), IntWalk.i64_in ((1500 + (20 * ca)) + (2 * cb)) (by omega)]) rfl,
  fun f s W c d h i j a => opc rfl rfl (by simp [go_sem, a.e 10 (d 0 rfl), a.e 17 (d 7 rfl)]) (span_any (1500 + (20 * ca)) ((1500 + (20 * ca)) + (2 * cb)) W), trivial⟩ ?_
 intro f3 s3 W3 hB3 g3 hg3
 have fB3 := hB3.f fB2
 have z3 := hB3.below.size
 have b3_0 := hB3.b b2_0
 have b3_1 := hB3.b b2_1
 have k3_2 := kt hg3 2 k2_2
 have k3_18 := kt hg3 18 (hB3.is 8)
 obtain ⟨W4, hW4⟩ : ∃ W', W' = W3.setRow (s1 1) #[.int .i64 (1500 + (20 * ca)), .int .i64 ((1500 + (20 * ca)) + (2 * cb))] := ⟨_, rfl⟩
 refine tail_skip (o := _) rfl ⟨rfl, rfl⟩ (run_seg hW4 (fr_ev k3_2) (fr_ev k3_18) b3_1 rfl rfl rfl rfl) ?_
 obtain ⟨fB4, nb4, ot4, z4⟩ := seg_facts hW4 fB3 b3_1 (by omega)
 clear hW4
 have b4_0 := ot4 _ _ (by omega) b3_0
 refine wpOps_end ?_
 refine hK3 _ _ ?_
 refine wp_ret ?_
 refine leave_gen (v := .agg #[.int .i64 (1500 + (20 * ca)), .int .i64 ((1500 + (20 * ca)) + (2 * cb))]) (.inr rfl) (by simp [results, Try.results25, go_sem, frv 19 k3_2, cl nb4 0, cl nb4 1]) ?_
 exact ⟨rfl, fB4⟩
def microsOf (b : Bl) (c : Int) : List Int :=
  let p := fun k => 1000 * b.panels.getD k 0 - c
  [p 0, p 1, p 2, p 3, if b.isOpen = true then 1000 * b.height - 2 * c + c else 1000 * b.height - 2 * c, p 1 - 2000 * b.top.getD 0 0, p 0 - 2000 * b.top.getD 1 0, p 1 - 2000 * b.bottom.getD 0 0, p 0 - 2000 * b.bottom.getD 1 0]
set_option maxRecDepth 100000 in
set_option maxHeartbeats 8000000 in
theorem micros_any (a1 a2 a3 : Option Addr) (c1 c2 c3 : Nat) (tab p0 p1 p2 p3 hh t0 t1 u0 u1 sl : Int) (op : Bool) (cal : Int) (w : World) (h1 : Ii w a1 4 c1 [p0, p1, p2, p3]) (h2 : Ii w a2 2 c2 [t0, t1]) (h3 : Ii w a3 2 c3 [u0, u1]) (gp0 : 0 ≤ p0 ∧ p0 ≤ 4000) (gp1 : 0 ≤ p1 ∧ p1 ≤ 4000) (gp2 : 0 ≤ p2 ∧ p2 ≤ 4000) (gp3 : 0 ≤ p3 ∧ p3 ≤ 4000) (ghh : 0 ≤ hh ∧ hh ≤ 4000) (gt0 : 0 ≤ t0 ∧ t0 ≤ 4000) (gt1 : 0 ≤ t1 ∧ t1 ≤ 4000) (gu0 : 0 ≤ u0 ∧ u0 ≤ 4000) (gu1 : 0 ≤ u1 ∧ u1 ≤ 4000) (gcl : 0 ≤ cal ∧ cal ≤ 100000) :
  Calls Try.prog 26 #[.agg #[.int .i64 tab, .slice (a1) (4) (c1), .int .i64 hh, .slice (a2) (2) (c2), .slice (a3) (2) (c3), .int .i64 sl, .bool op], .int .i64 cal] w (fun e w' => e = .returned (.agg ((microsOf ⟨tab, [p0, p1, p2, p3], hh, [t0, t1], [u0, u1], sl, op⟩ cal).map (Value.int .i64)).toArray) ∧ Below w.heap.size w w') := by
 obtain ⟨q1, o1, hq1, hql1, hqc1⟩ := h1.at (by simp)
 obtain ⟨q2, o2, hq2, hql2, hqc2⟩ := h2.at (by simp)
 obtain ⟨q3, o3, hq3, hql3, hqc3⟩ := h3.at (by simp)
 refine calls_fr Try.func26 Try.ntmps26 rfl rfl fun g hg => ?_
 have k0 : g 0 = .agg #[.int .i64 tab, .slice (a1) (4) (c1), .int .i64 hh, .slice (a2) (2) (c2), .slice (a3) (2) (c3), .int .i64 sl, .bool op] := hg 0
 have k1 : g 1 = .int .i64 cal := hg 1
 clear hg
 have fB0 : Below w.heap.size w w := Below.refl _ _
 refine wp_seq_k fun K1 hK1 => ?_
 refine region_dk 2 [(2, 0), (4, 1)] [[], []] (rel [bx 0 #[.int .i64 tab, .slice (a1) (4) (c1), .int .i64 hh, .slice (a2) (2) (c2), .slice (a3) (2) (c3), .int .i64 sl, .bool op] 24,
   bx 1 #[.int .i64 0, .int .i64 0, .int .i64 0, .int .i64 0, .int .i64 0, .int .i64 0, .int .i64 0, .int .i64 0, .int .i64 0] 59])
  ⟨bx_k, bx_k, trivial⟩
  ⟨fun f s W c d h i j a => opb rfl rfl (by simp [go_sem, a.e 0 k0]),
  fun f s W c d h i j a => opb rfl rfl (by simp [go_sem]), trivial⟩ ?_
 intro f1 s1 W1 hB1 g1 hg1
 have fB1 := hB1.f fB0
 have z1 := hB1.below.size
 obtain ⟨r1_0, br1_0⟩ := hB1.is 0
 have lr1_0 := hB1.lr 0 br1_0
 obtain ⟨r1_1, br1_1⟩ := hB1.is 1
 have lr1_1 := hB1.lr 1 br1_1
 have ne1_0_1 := hB1.nb 0 1
 refine hK1 _ _ ?_
 have k1_1 := kt hg1 1 k1
 have k1_2 := kt hg1 2 r1_0
 have k1_4 := kt hg1 4 r1_1
 refine wp_seq_k fun K2 hK2 => ?_
 refine region_dk 2 [(9, 0), (5, 1)] [[], [], [0, 1]] (rel [is (.agg #[.int .i64 0, .int .i64 0, .int .i64 0, .int .i64 0, .int .i64 0, .int .i64 0, .int .i64 0, .int .i64 0, .int .i64 0]),
   bx 1 #[.int .i64 0, .int .i64 0, .int .i64 0, .int .i64 0, .int .i64 0, .int .i64 0, .int .i64 0, .int .i64 0, .int .i64 0] 59])
  ⟨is_k, bx_k, trivial⟩
  ⟨fun f s W c d h i j a => opv rfl rfl (by simp [go_sem]) rfl,
  fun f s W c d h i j a => opb rfl rfl (by simp [go_sem]), trivial⟩ ?_
 intro f2 s2 W2 hB2 g2 hg2
 have fB2 := hB2.f fB1
 have z2 := hB2.below.size
 have b2_0 := hB2.b br1_0
 have b2_1 := hB2.b br1_1
 obtain ⟨r2_1, br2_1⟩ := hB2.is 1
 have lr2_1 := hB2.lr 1 br2_1
 have k2_1 := kt hg2 1 k1_1
 have k2_2 := kt hg2 2 k1_2
 have k2_4 := kt hg2 4 k1_4
 have k2_9 := kt hg2 9 (hB2.is 0)
 have k2_5 := kt hg2 5 r2_1
 obtain ⟨W3, hW3⟩ : ∃ W', W' = W2.setRow (s2 1) #[.int .i64 0, .int .i64 0, .int .i64 0, .int .i64 0, .int .i64 0, .int .i64 0, .int .i64 0, .int .i64 0, .int .i64 0] := ⟨_, rfl⟩
 refine tail_skip (o := _) rfl ⟨rfl, rfl⟩ (run_seg hW3 (fr_ev k2_5) (fr_ev k2_9) br2_1 rfl rfl rfl rfl) ?_
 obtain ⟨fB3, nb3, ot3, z3⟩ := seg_facts hW3 fB2 br2_1 (by omega)
 clear hW3
 have b3_0 := ot3 _ _ (by omega) b2_0
 have b3_1 := ot3 _ _ (by omega) b2_1
 refine wpOps_end ?_
 refine hK2 _ _ ?_
 refine wp_seq_k fun K3 hK3 => ?_
 refine wp_seq_k fun K4 hK4 => ?_
 refine region_dk 1 [(6, 0)] [[]] (rel [is (.int .i64 0)])
  ⟨is_k, trivial⟩
  ⟨fun f s W c d h i j a => opv rfl rfl (by simp [go_sem]) rfl, trivial⟩ ?_
 intro f4 s4 W4 hB4 g4 hg4
 have fB4 := hB4.f fB3
 have z4 := hB4.below.size
 have b4_0 := hB4.b b3_0
 have b4_1 := hB4.b b3_1
 have b4_2 := hB4.b nb3
 refine hK4 _ _ ?_
 have k4_1 := kt hg4 1 k2_1
 have k4_2 := kt hg4 2 k2_2
 have k4_4 := kt hg4 4 k2_4
 have k4_5 := kt hg4 5 k2_5
 have k4_6 := kt hg4 6 (hB4.is 0)
 refine wp_block ?_
 refine wp_loop_rounds 5 ?_
 rw [rounds_succ]
 refine wp_seq_k fun K5 hK5 => ?_
 refine wp_seq_k fun K6 hK6 => ?_
 refine region_dk 2 [(10, 0), (11, 1)] [[], [0]] (rel [is (.int .i64 0),
   is (.bool true)])
  ⟨is_k, is_k, trivial⟩
  ⟨fun f s W c d h i j a => opv rfl rfl (by simp [go_sem, a.e 6 k4_6]) rfl,
  fun f s W c d h i j a => opv rfl rfl (by simp [go_sem, a.e 10 (d 0 rfl)]) rfl, trivial⟩ ?_
 intro f5 s5 W5 hB5 g5 hg5
 have fB5 := hB5.f fB4
 have z5 := hB5.below.size
 have b5_0 := hB5.b b4_0
 have b5_1 := hB5.b b4_1
 have b5_2 := hB5.b b4_2
 refine hK6 _ _ ?_
 have k5_1 := kt hg5 1 k4_1
 have k5_2 := kt hg5 2 k4_2
 have k5_4 := kt hg5 4 k4_4
 have k5_5 := kt hg5 5 k4_5
 have k5_6 := kt hg5 6 k4_6
 have k5_11 := kt hg5 11 (hB5.is 1)
 refine wp_cond_true ((fr_eval rfl).trans k5_11) ?_
 refine wp_skip ?_
 refine hK5 _ _ ?_
 refine wp_seq_k fun K8 hK8 => ?_
 refine wp_block ?_
 refine region_dk 10 [(14, 0), (15, 1), (16, 2), (17, 3), (18, 4), (19, 5), (20, 6), (21, 7), (22, 8), (23, 9)] [[], [], [1], [], [1, 2, 3], [1, 2, 3, 4], [1, 2, 3, 4, 5], [], [1, 2, 3, 4, 5, 6, 7], [0, 1, 2, 3, 4, 5, 6, 7, 8], [0, 1, 2, 3, 4, 5, 6, 7, 8, 9]] (rel [is (.int .i64 0),
   is (.pointer (some ⟨(s1 0), 1, none⟩)),
   is (.slice (a1) (4) (c1)),
   is (.int .i64 0),
   is (.pointer (some ⟨q1, o1, none⟩)),
   is (.int .i64 p0),
   is (.int .i64 (1000 * p0)),
   is (.int .i64 cal),
   is (.int .i64 ((1000 * p0) - cal)),
   is (.pointer (some ⟨(s2 1), 0, none⟩))])
  ⟨is_k, is_k, is_k, is_k, is_k, is_k, is_k, is_k, is_k, is_k, trivial⟩
  ⟨fun f s W c d h i j a => opv rfl rfl (by simp [go_sem, a.e 6 k5_6]) rfl,
  fun f s W c d h i j a => opv rfl rfl (by simp [go_sem, a.e 2 k5_2]) rfl,
  fun f s W c d h i j a => opv rfl rfl (by simp [go_sem, a.e 15 (d 1 rfl), cb b5_0 c 1]) rfl,
  fun f s W c d h i j a => opv rfl rfl (by simp [go_sem, a.e 6 k5_6]) rfl,
  fun f s W c d h i j a => opv rfl rfl (by simp [go_sem, a.e 16 (d 2 rfl), a.e 17 (d 3 rfl), hq1]) rfl,
  fun f s W c d h i j a => by have k := below_trans fB5 c; have u_ : W.cell? ⟨q1, o1, none⟩ = some (.int .i64 (p0)) := (k.cell (p := ⟨q1, o1, none⟩) hql1).trans (hqc1 0 (by simp)); exact opv rfl rfl (by simp [go_sem, a.e 18 (d 4 rfl), u_]) rfl,
  fun f s W c d h i j a => opv rfl rfl (by simp [go_sem, a.e 19 (d 5 rfl), IntWalk.i64_in (1000 * p0) (by omega)]) rfl,
  fun f s W c d h i j a => opv rfl rfl (by simp [go_sem, a.e 1 k5_1]) rfl,
  fun f s W c d h i j a => opv rfl rfl (by simp [go_sem, a.e 20 (d 6 rfl), a.e 21 (d 7 rfl), IntWalk.i64_in ((1000 * p0) - cal) (by omega)]) rfl,
  fun f s W c d h i j a => opv rfl rfl (by simp [go_sem, a.e 5 k5_5, a.e 14 (d 0 rfl)]) rfl, trivial⟩ ?_
 intro f6 s6 W6 hB6 g6 hg6
 have fB6 := hB6.f fB5
 have z6 := hB6.below.size
 have b6_0 := hB6.b b5_0
 have b6_1 := hB6.b b5_1
 have b6_2 := hB6.b b5_2
 have k6_1 := kt hg6 1 k5_1
 have k6_2 := kt hg6 2 k5_2
 have k6_4 := kt hg6 4 k5_4
 have k6_5 := kt hg6 5 k5_5
 have k6_6 := kt hg6 6 k5_6
 have k6_11 := kt hg6 11 k5_11
 have k6_22 := kt hg6 22 (hB6.is 8)
 have k6_23 := kt hg6 23 (hB6.is 9)
 obtain ⟨W7, hW7⟩ : ∃ W', W' = W6.setRow (s2 1) #[.int .i64 ((1000 * p0) - cal), .int .i64 0, .int .i64 0, .int .i64 0, .int .i64 0, .int .i64 0, .int .i64 0, .int .i64 0, .int .i64 0] := ⟨_, rfl⟩
 refine tail_skip (o := _) rfl ⟨rfl, rfl⟩ (run_seg hW7 (fr_ev k6_23) (fr_ev k6_22) b6_2 rfl rfl rfl rfl) ?_
 obtain ⟨fB7, nb7, ot7, z7⟩ := seg_facts hW7 fB6 b6_2 (by omega)
 clear hW7
 have b7_0 := ot7 _ _ (by omega) b6_0
 have b7_1 := ot7 _ _ (by omega) b6_1
 refine wpOps_end ?_
 refine inBlock_normal ?_
 refine hK8 _ _ ?_
 refine region_dk 3 [(12, 0), (13, 1), (6, 2)] [[], [0], [0, 1]] (rel [is (.int .i64 0),
   is (.int .i64 1),
   is (.int .i64 1)])
  ⟨is_k, is_k, is_k, trivial⟩
  ⟨fun f s W c d h i j a => opv rfl rfl (by simp [go_sem, a.e 6 ((i 2 6 rfl rfl).trans k6_6)]) rfl,
  fun f s W c d h i j a => opv rfl rfl (by simp [go_sem, a.e 12 (d 0 rfl), IntWalk.i64_in (1) (by omega)]) rfl,
  fun f s W c d h i j a => opv rfl rfl (by simp [go_sem, a.e 13 (d 1 rfl)]) rfl, trivial⟩ ?_
 intro f8 s8 W8 hB8 g8 hg8
 have fB8 := hB8.f fB7
 have z8 := hB8.below.size
 have b8_0 := hB8.b b7_0
 have b8_1 := hB8.b b7_1
 have b8_2 := hB8.b nb7
 refine wpOps_end ?_
 have k8_1 := kt hg8 1 k6_1
 have k8_2 := kt hg8 2 k6_2
 have k8_4 := kt hg8 4 k6_4
 have k8_5 := kt hg8 5 k6_5
 have k8_11 := kt hg8 11 k6_11
 have k8_22 := kt hg8 22 k6_22
 have k8_23 := kt hg8 23 k6_23
 have k8_6 := kt hg8 6 (hB8.is 2)
 refine then_normal ?_
 rw [rounds_succ]
 refine wp_seq_k fun K9 hK9 => ?_
 refine wp_seq_k fun K10 hK10 => ?_
 refine region_dk 2 [(10, 0), (11, 1)] [[], [0]] (rel [is (.int .i64 1),
   is (.bool true)])
  ⟨is_k, is_k, trivial⟩
  ⟨fun f s W c d h i j a => opv rfl rfl (by simp [go_sem, a.e 6 k8_6]) rfl,
  fun f s W c d h i j a => opv rfl rfl (by simp [go_sem, a.e 10 (d 0 rfl)]) rfl, trivial⟩ ?_
 intro f9 s9 W9 hB9 g9 hg9
 have fB9 := hB9.f fB8
 have z9 := hB9.below.size
 have b9_0 := hB9.b b8_0
 have b9_1 := hB9.b b8_1
 have b9_2 := hB9.b b8_2
 refine hK10 _ _ ?_
 have k9_1 := kt hg9 1 k8_1
 have k9_2 := kt hg9 2 k8_2
 have k9_4 := kt hg9 4 k8_4
 have k9_5 := kt hg9 5 k8_5
 have k9_22 := kt hg9 22 k8_22
 have k9_23 := kt hg9 23 k8_23
 have k9_6 := kt hg9 6 k8_6
 have k9_11 := kt hg9 11 (hB9.is 1)
 refine wp_cond_true ((fr_eval rfl).trans k9_11) ?_
 refine wp_skip ?_
 refine hK9 _ _ ?_
 refine wp_seq_k fun K12 hK12 => ?_
 refine wp_block ?_
 refine region_dk 10 [(14, 0), (15, 1), (16, 2), (17, 3), (18, 4), (19, 5), (20, 6), (21, 7), (22, 8), (23, 9)] [[], [], [1], [], [1, 2, 3], [1, 2, 3, 4], [1, 2, 3, 4, 5], [], [1, 2, 3, 4, 5, 6, 7], [0, 1, 2, 3, 4, 5, 6, 7, 8], [0, 1, 2, 3, 4, 5, 6, 7, 8, 9]] (rel [is (.int .i64 1),
   is (.pointer (some ⟨(s1 0), 1, none⟩)),
   is (.slice (a1) (4) (c1)),
   is (.int .i64 1),
   is (.pointer (some ⟨q1, o1 + 1, none⟩)),
   is (.int .i64 p1),
   is (.int .i64 (1000 * p1)),
   is (.int .i64 cal),
   is (.int .i64 ((1000 * p1) - cal)),
   is (.pointer (some ⟨(s2 1), 1, none⟩))])
  ⟨is_k, is_k, is_k, is_k, is_k, is_k, is_k, is_k, is_k, is_k, trivial⟩
  ⟨fun f s W c d h i j a => opv rfl rfl (by simp [go_sem, a.e 6 k9_6]) rfl,
  fun f s W c d h i j a => opv rfl rfl (by simp [go_sem, a.e 2 k9_2]) rfl,
  fun f s W c d h i j a => opv rfl rfl (by simp [go_sem, a.e 15 (d 1 rfl), cb b9_0 c 1]) rfl,
  fun f s W c d h i j a => opv rfl rfl (by simp [go_sem, a.e 6 k9_6]) rfl,
  fun f s W c d h i j a => opv rfl rfl (by simp [go_sem, a.e 16 (d 2 rfl), a.e 17 (d 3 rfl), hq1]) rfl,
  fun f s W c d h i j a => by have k := below_trans fB9 c; have u_ : W.cell? ⟨q1, o1 + 1, none⟩ = some (.int .i64 (p1)) := (k.cell (p := ⟨q1, o1 + 1, none⟩) hql1).trans (hqc1 1 (by simp)); exact opv rfl rfl (by simp [go_sem, a.e 18 (d 4 rfl), u_]) rfl,
  fun f s W c d h i j a => opv rfl rfl (by simp [go_sem, a.e 19 (d 5 rfl), IntWalk.i64_in (1000 * p1) (by omega)]) rfl,
  fun f s W c d h i j a => opv rfl rfl (by simp [go_sem, a.e 1 k9_1]) rfl,
  fun f s W c d h i j a => opv rfl rfl (by simp [go_sem, a.e 20 (d 6 rfl), a.e 21 (d 7 rfl), IntWalk.i64_in ((1000 * p1) - cal) (by omega)]) rfl,
  fun f s W c d h i j a => opv rfl rfl (by simp [go_sem, a.e 5 k9_5, a.e 14 (d 0 rfl)]) rfl, trivial⟩ ?_
 intro f10 s10 W10 hB10 g10 hg10
 have fB10 := hB10.f fB9
 have z10 := hB10.below.size
 have b10_0 := hB10.b b9_0
 have b10_1 := hB10.b b9_1
 have b10_2 := hB10.b b9_2
 have k10_1 := kt hg10 1 k9_1
 have k10_2 := kt hg10 2 k9_2
 have k10_4 := kt hg10 4 k9_4
 have k10_5 := kt hg10 5 k9_5
 have k10_6 := kt hg10 6 k9_6
 have k10_11 := kt hg10 11 k9_11
 have k10_22 := kt hg10 22 (hB10.is 8)
 have k10_23 := kt hg10 23 (hB10.is 9)
 obtain ⟨W11, hW11⟩ : ∃ W', W' = W10.setRow (s2 1) #[.int .i64 ((1000 * p0) - cal), .int .i64 ((1000 * p1) - cal), .int .i64 0, .int .i64 0, .int .i64 0, .int .i64 0, .int .i64 0, .int .i64 0, .int .i64 0] := ⟨_, rfl⟩
 refine tail_skip (o := _) rfl ⟨rfl, rfl⟩ (run_seg hW11 (fr_ev k10_23) (fr_ev k10_22) b10_2 rfl rfl rfl rfl) ?_
 obtain ⟨fB11, nb11, ot11, z11⟩ := seg_facts hW11 fB10 b10_2 (by omega)
 clear hW11
 have b11_0 := ot11 _ _ (by omega) b10_0
 have b11_1 := ot11 _ _ (by omega) b10_1
 refine wpOps_end ?_
 refine inBlock_normal ?_
 refine hK12 _ _ ?_
 refine region_dk 3 [(12, 0), (13, 1), (6, 2)] [[], [0], [0, 1]] (rel [is (.int .i64 1),
   is (.int .i64 2),
   is (.int .i64 2)])
  ⟨is_k, is_k, is_k, trivial⟩
  ⟨fun f s W c d h i j a => opv rfl rfl (by simp [go_sem, a.e 6 ((i 2 6 rfl rfl).trans k10_6)]) rfl,
  fun f s W c d h i j a => opv rfl rfl (by simp [go_sem, a.e 12 (d 0 rfl), IntWalk.i64_in (2) (by omega)]) rfl,
  fun f s W c d h i j a => opv rfl rfl (by simp [go_sem, a.e 13 (d 1 rfl)]) rfl, trivial⟩ ?_
 intro f12 s12 W12 hB12 g12 hg12
 have fB12 := hB12.f fB11
 have z12 := hB12.below.size
 have b12_0 := hB12.b b11_0
 have b12_1 := hB12.b b11_1
 have b12_2 := hB12.b nb11
 refine wpOps_end ?_
 have k12_1 := kt hg12 1 k10_1
 have k12_2 := kt hg12 2 k10_2
 have k12_4 := kt hg12 4 k10_4
 have k12_5 := kt hg12 5 k10_5
 have k12_11 := kt hg12 11 k10_11
 have k12_22 := kt hg12 22 k10_22
 have k12_23 := kt hg12 23 k10_23
 have k12_6 := kt hg12 6 (hB12.is 2)
 refine then_normal ?_
 rw [rounds_succ]
 refine wp_seq_k fun K13 hK13 => ?_
 refine wp_seq_k fun K14 hK14 => ?_
 refine region_dk 2 [(10, 0), (11, 1)] [[], [0]] (rel [is (.int .i64 2),
   is (.bool true)])
  ⟨is_k, is_k, trivial⟩
  ⟨fun f s W c d h i j a => opv rfl rfl (by simp [go_sem, a.e 6 k12_6]) rfl,
  fun f s W c d h i j a => opv rfl rfl (by simp [go_sem, a.e 10 (d 0 rfl)]) rfl, trivial⟩ ?_
 intro f13 s13 W13 hB13 g13 hg13
 have fB13 := hB13.f fB12
 have z13 := hB13.below.size
 have b13_0 := hB13.b b12_0
 have b13_1 := hB13.b b12_1
 have b13_2 := hB13.b b12_2
 refine hK14 _ _ ?_
 have k13_1 := kt hg13 1 k12_1
 have k13_2 := kt hg13 2 k12_2
 have k13_4 := kt hg13 4 k12_4
 have k13_5 := kt hg13 5 k12_5
 have k13_22 := kt hg13 22 k12_22
 have k13_23 := kt hg13 23 k12_23
 have k13_6 := kt hg13 6 k12_6
 have k13_11 := kt hg13 11 (hB13.is 1)
 refine wp_cond_true ((fr_eval rfl).trans k13_11) ?_
 refine wp_skip ?_
 refine hK13 _ _ ?_
 refine wp_seq_k fun K16 hK16 => ?_
 refine wp_block ?_
 refine region_dk 10 [(14, 0), (15, 1), (16, 2), (17, 3), (18, 4), (19, 5), (20, 6), (21, 7), (22, 8), (23, 9)] [[], [], [1], [], [1, 2, 3], [1, 2, 3, 4], [1, 2, 3, 4, 5], [], [1, 2, 3, 4, 5, 6, 7], [0, 1, 2, 3, 4, 5, 6, 7, 8], [0, 1, 2, 3, 4, 5, 6, 7, 8, 9]] (rel [is (.int .i64 2),
   is (.pointer (some ⟨(s1 0), 1, none⟩)),
   is (.slice (a1) (4) (c1)),
   is (.int .i64 2),
   is (.pointer (some ⟨q1, o1 + 2, none⟩)),
   is (.int .i64 p2),
   is (.int .i64 (1000 * p2)),
   is (.int .i64 cal),
   is (.int .i64 ((1000 * p2) - cal)),
   is (.pointer (some ⟨(s2 1), 2, none⟩))])
  ⟨is_k, is_k, is_k, is_k, is_k, is_k, is_k, is_k, is_k, is_k, trivial⟩
  ⟨fun f s W c d h i j a => opv rfl rfl (by simp [go_sem, a.e 6 k13_6]) rfl,
  fun f s W c d h i j a => opv rfl rfl (by simp [go_sem, a.e 2 k13_2]) rfl,
  fun f s W c d h i j a => opv rfl rfl (by simp [go_sem, a.e 15 (d 1 rfl), cb b13_0 c 1]) rfl,
  fun f s W c d h i j a => opv rfl rfl (by simp [go_sem, a.e 6 k13_6]) rfl,
  fun f s W c d h i j a => opv rfl rfl (by simp [go_sem, a.e 16 (d 2 rfl), a.e 17 (d 3 rfl), hq1]) rfl,
  fun f s W c d h i j a => by have k := below_trans fB13 c; have u_ : W.cell? ⟨q1, o1 + 2, none⟩ = some (.int .i64 (p2)) := (k.cell (p := ⟨q1, o1 + 2, none⟩) hql1).trans (hqc1 2 (by simp)); exact opv rfl rfl (by simp [go_sem, a.e 18 (d 4 rfl), u_]) rfl,
  fun f s W c d h i j a => opv rfl rfl (by simp [go_sem, a.e 19 (d 5 rfl), IntWalk.i64_in (1000 * p2) (by omega)]) rfl,
  fun f s W c d h i j a => opv rfl rfl (by simp [go_sem, a.e 1 k13_1]) rfl,
  fun f s W c d h i j a => opv rfl rfl (by simp [go_sem, a.e 20 (d 6 rfl), a.e 21 (d 7 rfl), IntWalk.i64_in ((1000 * p2) - cal) (by omega)]) rfl,
  fun f s W c d h i j a => opv rfl rfl (by simp [go_sem, a.e 5 k13_5, a.e 14 (d 0 rfl)]) rfl, trivial⟩ ?_
 intro f14 s14 W14 hB14 g14 hg14
 have fB14 := hB14.f fB13
 have z14 := hB14.below.size
 have b14_0 := hB14.b b13_0
 have b14_1 := hB14.b b13_1
 have b14_2 := hB14.b b13_2
 have k14_1 := kt hg14 1 k13_1
 have k14_2 := kt hg14 2 k13_2
 have k14_4 := kt hg14 4 k13_4
 have k14_5 := kt hg14 5 k13_5
 have k14_6 := kt hg14 6 k13_6
 have k14_11 := kt hg14 11 k13_11
 have k14_22 := kt hg14 22 (hB14.is 8)
 have k14_23 := kt hg14 23 (hB14.is 9)
 obtain ⟨W15, hW15⟩ : ∃ W', W' = W14.setRow (s2 1) #[.int .i64 ((1000 * p0) - cal), .int .i64 ((1000 * p1) - cal), .int .i64 ((1000 * p2) - cal), .int .i64 0, .int .i64 0, .int .i64 0, .int .i64 0, .int .i64 0, .int .i64 0] := ⟨_, rfl⟩
 refine tail_skip (o := _) rfl ⟨rfl, rfl⟩ (run_seg hW15 (fr_ev k14_23) (fr_ev k14_22) b14_2 rfl rfl rfl rfl) ?_
 obtain ⟨fB15, nb15, ot15, z15⟩ := seg_facts hW15 fB14 b14_2 (by omega)
 clear hW15
 have b15_0 := ot15 _ _ (by omega) b14_0
 have b15_1 := ot15 _ _ (by omega) b14_1
 refine wpOps_end ?_
 refine inBlock_normal ?_
 refine hK16 _ _ ?_
 refine region_dk 3 [(12, 0), (13, 1), (6, 2)] [[], [0], [0, 1]] (rel [is (.int .i64 2),
   is (.int .i64 3),
   is (.int .i64 3)])
  ⟨is_k, is_k, is_k, trivial⟩
  ⟨fun f s W c d h i j a => opv rfl rfl (by simp [go_sem, a.e 6 ((i 2 6 rfl rfl).trans k14_6)]) rfl,
  fun f s W c d h i j a => opv rfl rfl (by simp [go_sem, a.e 12 (d 0 rfl), IntWalk.i64_in (3) (by omega)]) rfl,
  fun f s W c d h i j a => opv rfl rfl (by simp [go_sem, a.e 13 (d 1 rfl)]) rfl, trivial⟩ ?_
 intro f16 s16 W16 hB16 g16 hg16
 have fB16 := hB16.f fB15
 have z16 := hB16.below.size
 have b16_0 := hB16.b b15_0
 have b16_1 := hB16.b b15_1
 have b16_2 := hB16.b nb15
 refine wpOps_end ?_
 have k16_1 := kt hg16 1 k14_1
 have k16_2 := kt hg16 2 k14_2
 have k16_4 := kt hg16 4 k14_4
 have k16_5 := kt hg16 5 k14_5
 have k16_11 := kt hg16 11 k14_11
 have k16_22 := kt hg16 22 k14_22
 have k16_23 := kt hg16 23 k14_23
 have k16_6 := kt hg16 6 (hB16.is 2)
 refine then_normal ?_
 rw [rounds_succ]
 refine wp_seq_k fun K17 hK17 => ?_
 refine wp_seq_k fun K18 hK18 => ?_
 refine region_dk 2 [(10, 0), (11, 1)] [[], [0]] (rel [is (.int .i64 3),
   is (.bool true)])
  ⟨is_k, is_k, trivial⟩
  ⟨fun f s W c d h i j a => opv rfl rfl (by simp [go_sem, a.e 6 k16_6]) rfl,
  fun f s W c d h i j a => opv rfl rfl (by simp [go_sem, a.e 10 (d 0 rfl)]) rfl, trivial⟩ ?_
 intro f17 s17 W17 hB17 g17 hg17
 have fB17 := hB17.f fB16
 have z17 := hB17.below.size
 have b17_0 := hB17.b b16_0
 have b17_1 := hB17.b b16_1
 have b17_2 := hB17.b b16_2
 refine hK18 _ _ ?_
 have k17_1 := kt hg17 1 k16_1
 have k17_2 := kt hg17 2 k16_2
 have k17_4 := kt hg17 4 k16_4
 have k17_5 := kt hg17 5 k16_5
 have k17_22 := kt hg17 22 k16_22
 have k17_23 := kt hg17 23 k16_23
 have k17_6 := kt hg17 6 k16_6
 have k17_11 := kt hg17 11 (hB17.is 1)
 refine wp_cond_true ((fr_eval rfl).trans k17_11) ?_
 refine wp_skip ?_
 refine hK17 _ _ ?_
 refine wp_seq_k fun K20 hK20 => ?_
 refine wp_block ?_
 refine region_dk 10 [(14, 0), (15, 1), (16, 2), (17, 3), (18, 4), (19, 5), (20, 6), (21, 7), (22, 8), (23, 9)] [[], [], [1], [], [1, 2, 3], [1, 2, 3, 4], [1, 2, 3, 4, 5], [], [1, 2, 3, 4, 5, 6, 7], [0, 1, 2, 3, 4, 5, 6, 7, 8], [0, 1, 2, 3, 4, 5, 6, 7, 8, 9]] (rel [is (.int .i64 3),
   is (.pointer (some ⟨(s1 0), 1, none⟩)),
   is (.slice (a1) (4) (c1)),
   is (.int .i64 3),
   is (.pointer (some ⟨q1, o1 + 3, none⟩)),
   is (.int .i64 p3),
   is (.int .i64 (1000 * p3)),
   is (.int .i64 cal),
   is (.int .i64 ((1000 * p3) - cal)),
   is (.pointer (some ⟨(s2 1), 3, none⟩))])
  ⟨is_k, is_k, is_k, is_k, is_k, is_k, is_k, is_k, is_k, is_k, trivial⟩
  ⟨fun f s W c d h i j a => opv rfl rfl (by simp [go_sem, a.e 6 k17_6]) rfl,
  fun f s W c d h i j a => opv rfl rfl (by simp [go_sem, a.e 2 k17_2]) rfl,
  fun f s W c d h i j a => opv rfl rfl (by simp [go_sem, a.e 15 (d 1 rfl), cb b17_0 c 1]) rfl,
  fun f s W c d h i j a => opv rfl rfl (by simp [go_sem, a.e 6 k17_6]) rfl,
  fun f s W c d h i j a => opv rfl rfl (by simp [go_sem, a.e 16 (d 2 rfl), a.e 17 (d 3 rfl), hq1]) rfl,
  fun f s W c d h i j a => by have k := below_trans fB17 c; have u_ : W.cell? ⟨q1, o1 + 3, none⟩ = some (.int .i64 (p3)) := (k.cell (p := ⟨q1, o1 + 3, none⟩) hql1).trans (hqc1 3 (by simp)); exact opv rfl rfl (by simp [go_sem, a.e 18 (d 4 rfl), u_]) rfl,
  fun f s W c d h i j a => opv rfl rfl (by simp [go_sem, a.e 19 (d 5 rfl), IntWalk.i64_in (1000 * p3) (by omega)]) rfl,
  fun f s W c d h i j a => opv rfl rfl (by simp [go_sem, a.e 1 k17_1]) rfl,
  fun f s W c d h i j a => opv rfl rfl (by simp [go_sem, a.e 20 (d 6 rfl), a.e 21 (d 7 rfl), IntWalk.i64_in ((1000 * p3) - cal) (by omega)]) rfl,
  fun f s W c d h i j a => opv rfl rfl (by simp [go_sem, a.e 5 k17_5, a.e 14 (d 0 rfl)]) rfl, trivial⟩ ?_
 intro f18 s18 W18 hB18 g18 hg18
 have fB18 := hB18.f fB17
 have z18 := hB18.below.size
 have b18_0 := hB18.b b17_0
 have b18_1 := hB18.b b17_1
 have b18_2 := hB18.b b17_2
 have k18_1 := kt hg18 1 k17_1
 have k18_2 := kt hg18 2 k17_2
 have k18_4 := kt hg18 4 k17_4
 have k18_5 := kt hg18 5 k17_5
 have k18_6 := kt hg18 6 k17_6
 have k18_11 := kt hg18 11 k17_11
 have k18_22 := kt hg18 22 (hB18.is 8)
 have k18_23 := kt hg18 23 (hB18.is 9)
 obtain ⟨W19, hW19⟩ : ∃ W', W' = W18.setRow (s2 1) #[.int .i64 ((1000 * p0) - cal), .int .i64 ((1000 * p1) - cal), .int .i64 ((1000 * p2) - cal), .int .i64 ((1000 * p3) - cal), .int .i64 0, .int .i64 0, .int .i64 0, .int .i64 0, .int .i64 0] := ⟨_, rfl⟩
 refine tail_skip (o := _) rfl ⟨rfl, rfl⟩ (run_seg hW19 (fr_ev k18_23) (fr_ev k18_22) b18_2 rfl rfl rfl rfl) ?_
 obtain ⟨fB19, nb19, ot19, z19⟩ := seg_facts hW19 fB18 b18_2 (by omega)
 clear hW19
 have b19_0 := ot19 _ _ (by omega) b18_0
 have b19_1 := ot19 _ _ (by omega) b18_1
 refine wpOps_end ?_
 refine inBlock_normal ?_
 refine hK20 _ _ ?_
 refine region_dk 3 [(12, 0), (13, 1), (6, 2)] [[], [0], [0, 1]] (rel [is (.int .i64 3),
   is (.int .i64 4),
   is (.int .i64 4)])
  ⟨is_k, is_k, is_k, trivial⟩
  ⟨fun f s W c d h i j a => opv rfl rfl (by simp [go_sem, a.e 6 ((i 2 6 rfl rfl).trans k18_6)]) rfl,
  fun f s W c d h i j a => opv rfl rfl (by simp [go_sem, a.e 12 (d 0 rfl), IntWalk.i64_in (4) (by omega)]) rfl,
  fun f s W c d h i j a => opv rfl rfl (by simp [go_sem, a.e 13 (d 1 rfl)]) rfl, trivial⟩ ?_
 intro f20 s20 W20 hB20 g20 hg20
 have fB20 := hB20.f fB19
 have z20 := hB20.below.size
 have b20_0 := hB20.b b19_0
 have b20_1 := hB20.b b19_1
 have b20_2 := hB20.b nb19
 refine wpOps_end ?_
 have k20_1 := kt hg20 1 k18_1
 have k20_2 := kt hg20 2 k18_2
 have k20_4 := kt hg20 4 k18_4
 have k20_5 := kt hg20 5 k18_5
 have k20_11 := kt hg20 11 k18_11
 have k20_22 := kt hg20 22 k18_22
 have k20_23 := kt hg20 23 k18_23
 have k20_6 := kt hg20 6 (hB20.is 2)
 refine then_normal ?_
 rw [rounds_succ]
 refine wp_seq_k fun K21 hK21 => ?_
 refine wp_seq_k fun K22 hK22 => ?_
 refine region_dk 2 [(10, 0), (11, 1)] [[], [0]] (rel [is (.int .i64 4),
   is (.bool false)])
  ⟨is_k, is_k, trivial⟩
  ⟨fun f s W c d h i j a => opv rfl rfl (by simp [go_sem, a.e 6 k20_6]) rfl,
  fun f s W c d h i j a => opv rfl rfl (by simp [go_sem, a.e 10 (d 0 rfl)]) rfl, trivial⟩ ?_
 intro f21 s21 W21 hB21 g21 hg21
 have fB21 := hB21.f fB20
 have z21 := hB21.below.size
 have b21_0 := hB21.b b20_0
 have b21_1 := hB21.b b20_1
 have b21_2 := hB21.b b20_2
 refine hK22 _ _ ?_
 have k21_1 := kt hg21 1 k20_1
 have k21_2 := kt hg21 2 k20_2
 have k21_4 := kt hg21 4 k20_4
 have k21_5 := kt hg21 5 k20_5
 have k21_22 := kt hg21 22 k20_22
 have k21_23 := kt hg21 23 k20_23
 have k21_6 := kt hg21 6 k20_6
 have k21_11 := kt hg21 11 (hB21.is 1)
 refine wp_cond_false ((fr_eval rfl).trans k21_11) ?_
 refine wp_exit ?_
 refine then_exit ?_
 refine then_exit ?_
 refine inBlock_at ?_
 refine hK3 _ _ ?_
 refine wp_seq_k fun K24 hK24 => ?_
 refine region_dk 7 [(24, 0), (25, 1), (26, 2), (27, 3), (28, 4), (29, 5), (30, 6)] [[], [0], [0, 1], [], [3], [0, 1, 2, 3, 4], [0, 1, 2, 3, 4, 5], [0, 1, 2, 3, 4, 5, 6]] (rel [is (.pointer (some ⟨(s1 0), 2, none⟩)),
   is (.int .i64 hh),
   is (.int .i64 (1000 * hh)),
   is (.int .i64 cal),
   is (.int .i64 (2 * cal)),
   is (.int .i64 ((1000 * hh) - (2 * cal))),
   is (.pointer (some ⟨(s2 1), 4, none⟩))])
  ⟨is_k, is_k, is_k, is_k, is_k, is_k, is_k, trivial⟩
  ⟨fun f s W c d h i j a => opv rfl rfl (by simp [go_sem, a.e 2 k21_2]) rfl,
  fun f s W c d h i j a => opv rfl rfl (by simp [go_sem, a.e 24 (d 0 rfl), cb b21_0 c 2]) rfl,
  fun f s W c d h i j a => opv rfl rfl (by simp [go_sem, a.e 25 (d 1 rfl), IntWalk.i64_in (1000 * hh) (by omega)]) rfl,
  fun f s W c d h i j a => opv rfl rfl (by simp [go_sem, a.e 1 k21_1]) rfl,
  fun f s W c d h i j a => opv rfl rfl (by simp [go_sem, a.e 27 (d 3 rfl), IntWalk.i64_in (2 * cal) (by omega)]) rfl,
  fun f s W c d h i j a => opv rfl rfl (by simp [go_sem, a.e 26 (d 2 rfl), a.e 28 (d 4 rfl), IntWalk.i64_in ((1000 * hh) - (2 * cal)) (by omega)]) rfl,
  fun f s W c d h i j a => opv rfl rfl (by simp [go_sem, a.e 5 k21_5]) rfl, trivial⟩ ?_
 intro f22 s22 W22 hB22 g22 hg22
 have fB22 := hB22.f fB21
 have z22 := hB22.below.size
 have b22_0 := hB22.b b21_0
 have b22_1 := hB22.b b21_1
 have b22_2 := hB22.b b21_2
 have k22_1 := kt hg22 1 k21_1
 have k22_2 := kt hg22 2 k21_2
 have k22_4 := kt hg22 4 k21_4
 have k22_5 := kt hg22 5 k21_5
 have k22_29 := kt hg22 29 (hB22.is 5)
 have k22_30 := kt hg22 30 (hB22.is 6)
 obtain ⟨W23, hW23⟩ : ∃ W', W' = W22.setRow (s2 1) #[.int .i64 ((1000 * p0) - cal), .int .i64 ((1000 * p1) - cal), .int .i64 ((1000 * p2) - cal), .int .i64 ((1000 * p3) - cal), .int .i64 ((1000 * hh) - (2 * cal)), .int .i64 0, .int .i64 0, .int .i64 0, .int .i64 0] := ⟨_, rfl⟩
 refine tail_skip (o := _) rfl ⟨rfl, rfl⟩ (run_seg hW23 (fr_ev k22_30) (fr_ev k22_29) b22_2 rfl rfl rfl rfl) ?_
 obtain ⟨fB23, nb23, ot23, z23⟩ := seg_facts hW23 fB22 b22_2 (by omega)
 clear hW23
 have b23_0 := ot23 _ _ (by omega) b22_0
 have b23_1 := ot23 _ _ (by omega) b22_1
 refine wpOps_end ?_
 refine hK24 _ _ ?_
 refine wp_seq_k fun K25 hK25 => ?_
 suffices J1' : ∀ (g_ : Nat → Value) (W_ : World), (∃ (hv : Int), g_ 1 = .int .i64 cal ∧ g_ 2 = .pointer (some ⟨(s1 0), 0, none⟩) ∧ g_ 4 = .pointer (some ⟨(s1 1), 0, none⟩) ∧ g_ 5 = .pointer (some ⟨(s2 1), 0, none⟩) ∧ Below w.heap.size w W_ ∧ W23.heap.size ≤ W_.heap.size ∧ W_.heap[(s1 0)]? = some (.cells #[.int .i64 tab, .slice (a1) (4) (c1), .int .i64 hh, .slice (a2) (2) (c2), .slice (a3) (2) (c3), .int .i64 sl, .bool op] 24 (0, 0)) ∧ W_.heap[(s1 1)]? = some (.cells #[.int .i64 0, .int .i64 0, .int .i64 0, .int .i64 0, .int .i64 0, .int .i64 0, .int .i64 0, .int .i64 0, .int .i64 0] 59 (0, 0)) ∧ W_.heap[(s2 1)]? = some (.cells #[.int .i64 ((1000 * p0) - cal), .int .i64 ((1000 * p1) - cal), .int .i64 ((1000 * p2) - cal), .int .i64 ((1000 * p3) - cal), .int .i64 hv, .int .i64 0, .int .i64 0, .int .i64 0, .int .i64 0] 59 (0, 0)) ∧ hv = (if op = true then 1000 * hh - 2 * cal + cal else 1000 * hh - 2 * cal)) → K25 (fr 68 g_) W_ by
  refine wp_seq_k fun K26 hK26 => ?_
  refine region_dk 2 [(31, 0), (32, 1)] [[], [0]] (rel [is (.pointer (some ⟨(s1 0), 6, none⟩)),
   is (.bool op)])
   ⟨is_k, is_k, trivial⟩
   ⟨fun f s W c d h i j a => opv rfl rfl (by simp [go_sem, a.e 2 k22_2]) rfl,
  fun f s W c d h i j a => opv rfl rfl (by simp [go_sem, a.e 31 (d 0 rfl), cb b23_0 c 6]) rfl, trivial⟩ ?_
  intro f24 s24 W24 hB24 g24 hg24
  have fB24 := hB24.f fB23
  have z24 := hB24.below.size
  have b24_0 := hB24.b b23_0
  have b24_1 := hB24.b b23_1
  have b24_2 := hB24.b nb23
  refine hK26 _ _ ?_
  have k24_1 := kt hg24 1 k22_1
  have k24_2 := kt hg24 2 k22_2
  have k24_4 := kt hg24 4 k22_4
  have k24_5 := kt hg24 5 k22_5
  have k24_32 := kt hg24 32 (hB24.is 1)
  refine wp_cond_split (t := op) ((fr_eval rfl).trans k24_32) (fun hc27 => ?_) (fun hc27 => ?_)
  ·
   have hc27' := hc27; try simp only [ba] at hc27'
   refine region_dk 5 [(33, 0), (34, 1), (35, 2), (36, 3), (37, 4)] [[], [0], [], [0, 1, 2], [0, 1, 2, 3], [0, 1, 2, 3, 4]] (rel [is (.pointer (some ⟨(s2 1), 4, none⟩)),
   is (.int .i64 ((1000 * hh) - (2 * cal))),
   is (.int .i64 cal),
   is (.int .i64 (((1000 * hh) - (2 * cal)) + cal)),
   is (.pointer (some ⟨(s2 1), 4, none⟩))])
    ⟨is_k, is_k, is_k, is_k, is_k, trivial⟩
    ⟨fun f s W c d h i j a => opv rfl rfl (by simp [go_sem, a.e 5 k24_5]) rfl,
  fun f s W c d h i j a => opv rfl rfl (by simp [go_sem, a.e 33 (d 0 rfl), cb b24_2 c 4]) rfl,
  fun f s W c d h i j a => opv rfl rfl (by simp [go_sem, a.e 1 k24_1]) rfl,
  fun f s W c d h i j a => opv rfl rfl (by simp [go_sem, a.e 34 (d 1 rfl), a.e 35 (d 2 rfl), IntWalk.i64_in (((1000 * hh) - (2 * cal)) + cal) (by omega)]) rfl,
  fun f s W c d h i j a => opv rfl rfl (by simp [go_sem, a.e 5 k24_5]) rfl, trivial⟩ ?_
   intro f25 s25 W25 hB25 g25 hg25
   have fB25 := hB25.f fB24
   have z25 := hB25.below.size
   have b25_0 := hB25.b b24_0
   have b25_1 := hB25.b b24_1
   have b25_2 := hB25.b b24_2
   have k25_1 := kt hg25 1 k24_1
   have k25_2 := kt hg25 2 k24_2
   have k25_4 := kt hg25 4 k24_4
   have k25_5 := kt hg25 5 k24_5
   have k25_36 := kt hg25 36 (hB25.is 3)
   have k25_37 := kt hg25 37 (hB25.is 4)
   obtain ⟨W26, hW26⟩ : ∃ W', W' = W25.setRow (s2 1) #[.int .i64 ((1000 * p0) - cal), .int .i64 ((1000 * p1) - cal), .int .i64 ((1000 * p2) - cal), .int .i64 ((1000 * p3) - cal), .int .i64 (((1000 * hh) - (2 * cal)) + cal), .int .i64 0, .int .i64 0, .int .i64 0, .int .i64 0] := ⟨_, rfl⟩
   refine tail_skip (o := _) rfl ⟨rfl, rfl⟩ (run_seg hW26 (fr_ev k25_37) (fr_ev k25_36) b25_2 rfl rfl rfl rfl) ?_
   obtain ⟨fB26, nb26, ot26, z26⟩ := seg_facts hW26 fB25 b25_2 (by omega)
   clear hW26
   have b26_0 := ot26 _ _ (by omega) b25_0
   have b26_1 := ot26 _ _ (by omega) b25_1
   refine wpOps_end ?_
   exact J1' _ _ ⟨((1000 * hh) - (2 * cal)) + cal, k25_1, k25_2, k25_4, k25_5, fB26, (by omega), b26_0, b26_1, nb26, (by rw [hc27]; rfl)⟩
  ·
   have hc27' := hc27; try simp only [ba] at hc27'
   refine wp_skip ?_
   exact J1' _ _ ⟨(1000 * hh) - (2 * cal), k24_1, k24_2, k24_4, k24_5, fB24, (by omega), b24_0, b24_1, b24_2, (by rw [hc27]; rfl)⟩
 rintro g_2 W_2 ⟨hv, k_2_1, k_2_2, k_2_4, k_2_5, fB_2, z_2, b_2_0, b_2_1, m_2_0, jp_0⟩
 refine hK25 _ _ ?_
 refine wp_seq_k fun K28 hK28 => ?_
 refine wp_seq_k fun K29 hK29 => ?_
 refine region_dk 1 [(7, 0)] [[]] (rel [is (.int .i64 0)])
  ⟨is_k, trivial⟩
  ⟨fun f s W c d h i j a => opv rfl rfl (by simp [go_sem]) rfl, trivial⟩ ?_
 intro f27 s27 W27 hB27 g27 hg27
 have fB27 := hB27.f fB_2
 have z27 := hB27.below.size
 have b27_0 := hB27.b b_2_0
 have b27_1 := hB27.b b_2_1
 have b27_2 := hB27.b m_2_0
 refine hK29 _ _ ?_
 have k27_2 := kt hg27 2 k_2_2
 have k27_4 := kt hg27 4 k_2_4
 have k27_5 := kt hg27 5 k_2_5
 have k27_7 := kt hg27 7 (hB27.is 0)
 refine wp_block ?_
 refine wp_loop_rounds 5 ?_
 rw [rounds_succ]
 refine wp_seq_k fun K30 hK30 => ?_
 refine wp_seq_k fun K31 hK31 => ?_
 refine region_dk 2 [(38, 0), (39, 1)] [[], [0]] (rel [is (.int .i64 0),
   is (.bool true)])
  ⟨is_k, is_k, trivial⟩
  ⟨fun f s W c d h i j a => opv rfl rfl (by simp [go_sem, a.e 7 k27_7]) rfl,
  fun f s W c d h i j a => opv rfl rfl (by simp [go_sem, a.e 38 (d 0 rfl)]) rfl, trivial⟩ ?_
 intro f28 s28 W28 hB28 g28 hg28
 have fB28 := hB28.f fB27
 have z28 := hB28.below.size
 have b28_0 := hB28.b b27_0
 have b28_1 := hB28.b b27_1
 have b28_2 := hB28.b b27_2
 refine hK31 _ _ ?_
 have k28_2 := kt hg28 2 k27_2
 have k28_4 := kt hg28 4 k27_4
 have k28_5 := kt hg28 5 k27_5
 have k28_7 := kt hg28 7 k27_7
 have k28_39 := kt hg28 39 (hB28.is 1)
 refine wp_cond_true ((fr_eval rfl).trans k28_39) ?_
 refine wp_skip ?_
 refine hK30 _ _ ?_
 refine wp_seq_k fun K33 hK33 => ?_
 refine wp_block ?_
 refine wp_seq_k fun K34 hK34 => ?_
 refine region_dk 7 [(42, 0), (43, 1), (44, 2), (45, 3), (46, 4), (47, 5), (8, 6)] [[], [0], [], [2], [0, 1, 2, 3], [0, 1, 2, 3, 4], [0, 1, 2, 3, 4, 5]] (rel [is (.pointer (some ⟨(s1 0), 4, none⟩)),
   is (.slice (a3) (2) (c3)),
   is (.int .i64 0),
   is (.int .i64 0),
   is (.pointer (some ⟨q3, o3, none⟩)),
   is (.int .i64 u0),
   is (.int .i64 u0)])
  ⟨is_k, is_k, is_k, is_k, is_k, is_k, is_k, trivial⟩
  ⟨fun f s W c d h i j a => opv rfl rfl (by simp [go_sem, a.e 2 k28_2]) rfl,
  fun f s W c d h i j a => opv rfl rfl (by simp [go_sem, a.e 42 (d 0 rfl), cb b28_0 c 4]) rfl,
  fun f s W c d h i j a => opv rfl rfl (by simp [go_sem, a.e 7 k28_7]) rfl,
  fun f s W c d h i j a => opv rfl rfl (by simp [go_sem, a.e 44 (d 2 rfl)]) rfl,
  fun f s W c d h i j a => opv rfl rfl (by simp [go_sem, a.e 43 (d 1 rfl), a.e 45 (d 3 rfl), hq3]) rfl,
  fun f s W c d h i j a => by have k := below_trans fB28 c; have u_ : W.cell? ⟨q3, o3, none⟩ = some (.int .i64 (u0)) := (k.cell (p := ⟨q3, o3, none⟩) hql3).trans (hqc3 0 (by simp)); exact opv rfl rfl (by simp [go_sem, a.e 46 (d 4 rfl), u_]) rfl,
  fun f s W c d h i j a => opv rfl rfl (by simp [go_sem, a.e 47 (d 5 rfl)]) rfl, trivial⟩ ?_
 intro f29 s29 W29 hB29 g29 hg29
 have fB29 := hB29.f fB28
 have z29 := hB29.below.size
 have b29_0 := hB29.b b28_0
 have b29_1 := hB29.b b28_1
 have b29_2 := hB29.b b28_2
 refine hK34 _ _ ?_
 have k29_2 := kt hg29 2 k28_2
 have k29_4 := kt hg29 4 k28_4
 have k29_5 := kt hg29 5 k28_5
 have k29_7 := kt hg29 7 k28_7
 have k29_39 := kt hg29 39 k28_39
 have k29_8 := kt hg29 8 (hB29.is 6)
 refine wp_seq_k fun K35 hK35 => ?_
 refine wp_seq_k fun K36 hK36 => ?_
 refine region_dk 2 [(48, 0), (49, 1)] [[], [0]] (rel [is (.int .i64 0),
   is (.bool true)])
  ⟨is_k, is_k, trivial⟩
  ⟨fun f s W c d h i j a => opv rfl rfl (by simp [go_sem, a.e 7 k29_7]) rfl,
  fun f s W c d h i j a => opv rfl rfl (by simp [go_sem, a.e 48 (d 0 rfl)]) rfl, trivial⟩ ?_
 intro f30 s30 W30 hB30 g30 hg30
 have fB30 := hB30.f fB29
 have z30 := hB30.below.size
 have b30_0 := hB30.b b29_0
 have b30_1 := hB30.b b29_1
 have b30_2 := hB30.b b29_2
 refine hK36 _ _ ?_
 have k30_2 := kt hg30 2 k29_2
 have k30_4 := kt hg30 4 k29_4
 have k30_5 := kt hg30 5 k29_5
 have k30_7 := kt hg30 7 k29_7
 have k30_39 := kt hg30 39 k29_39
 have k30_8 := kt hg30 8 k29_8
 have k30_49 := kt hg30 49 (hB30.is 1)
 refine wp_cond_true ((fr_eval rfl).trans k30_49) ?_
 refine region_dk 7 [(50, 0), (51, 1), (52, 2), (53, 3), (54, 4), (55, 5), (8, 6)] [[], [0], [], [2], [0, 1, 2, 3], [0, 1, 2, 3, 4], [0, 1, 2, 3, 4, 5]] (rel [is (.pointer (some ⟨(s1 0), 3, none⟩)),
   is (.slice (a2) (2) (c2)),
   is (.int .i64 0),
   is (.int .i64 0),
   is (.pointer (some ⟨q2, o2, none⟩)),
   is (.int .i64 t0),
   is (.int .i64 t0)])
  ⟨is_k, is_k, is_k, is_k, is_k, is_k, is_k, trivial⟩
  ⟨fun f s W c d h i j a => opv rfl rfl (by simp [go_sem, a.e 2 k30_2]) rfl,
  fun f s W c d h i j a => opv rfl rfl (by simp [go_sem, a.e 50 (d 0 rfl), cb b30_0 c 3]) rfl,
  fun f s W c d h i j a => opv rfl rfl (by simp [go_sem, a.e 7 k30_7]) rfl,
  fun f s W c d h i j a => opv rfl rfl (by simp [go_sem, a.e 52 (d 2 rfl)]) rfl,
  fun f s W c d h i j a => opv rfl rfl (by simp [go_sem, a.e 51 (d 1 rfl), a.e 53 (d 3 rfl), hq2]) rfl,
  fun f s W c d h i j a => by have k := below_trans fB30 c; have u_ : W.cell? ⟨q2, o2, none⟩ = some (.int .i64 (t0)) := (k.cell (p := ⟨q2, o2, none⟩) hql2).trans (hqc2 0 (by simp)); exact opv rfl rfl (by simp [go_sem, a.e 54 (d 4 rfl), u_]) rfl,
  fun f s W c d h i j a => opv rfl rfl (by simp [go_sem, a.e 55 (d 5 rfl)]) rfl, trivial⟩ ?_
 intro f31 s31 W31 hB31 g31 hg31
 have fB31 := hB31.f fB30
 have z31 := hB31.below.size
 have b31_0 := hB31.b b30_0
 have b31_1 := hB31.b b30_1
 have b31_2 := hB31.b b30_2
 refine hK35 _ _ ?_
 have k31_2 := kt hg31 2 k30_2
 have k31_4 := kt hg31 4 k30_4
 have k31_5 := kt hg31 5 k30_5
 have k31_7 := kt hg31 7 k30_7
 have k31_39 := kt hg31 39 k30_39
 have k31_49 := kt hg31 49 k30_49
 have k31_8 := kt hg31 8 (hB31.is 6)
 refine region_dk 11 [(56, 0), (57, 1), (58, 2), (59, 3), (60, 4), (61, 5), (62, 6), (63, 7), (64, 8), (65, 9), (66, 10)] [[], [0], [], [2], [2, 3], [2, 3, 4], [2, 3, 4, 5], [], [7], [2, 3, 4, 5, 6, 7, 8], [0, 1, 2, 3, 4, 5, 6, 7, 8, 9], [0, 1, 2, 3, 4, 5, 6, 7, 8, 9, 10]] (rel [is (.int .i64 0),
   is (.int .i64 5),
   is (.int .i64 0),
   is (.int .i64 0),
   is (.int .i64 1),
   is (.pointer (some ⟨(s2 1), 1, none⟩)),
   is (.int .i64 ((1000 * p1) - cal)),
   is (.int .i64 t0),
   is (.int .i64 (2000 * t0)),
   is (.int .i64 (((1000 * p1) - cal) - (2000 * t0))),
   is (.pointer (some ⟨(s2 1), 5, none⟩))])
  ⟨is_k, is_k, is_k, is_k, is_k, is_k, is_k, is_k, is_k, is_k, is_k, trivial⟩
  ⟨fun f s W c d h i j a => opv rfl rfl (by simp [go_sem, a.e 7 k31_7]) rfl,
  fun f s W c d h i j a => opv rfl rfl (by simp [go_sem, a.e 56 (d 0 rfl), IntWalk.i64_in (5) (by omega)]) rfl,
  fun f s W c d h i j a => opv rfl rfl (by simp [go_sem, a.e 7 k31_7]) rfl,
  fun f s W c d h i j a => opv rfl rfl (by simp [go_sem, a.e 58 (d 2 rfl)]) rfl,
  fun f s W c d h i j a => opv rfl rfl (by simp [go_sem, a.e 59 (d 3 rfl), IntWalk.i64_in (1) (by omega)]) rfl,
  fun f s W c d h i j a => opv rfl rfl (by simp [go_sem, a.e 5 k31_5, a.e 60 (d 4 rfl)]) rfl,
  fun f s W c d h i j a => opv rfl rfl (by simp [go_sem, a.e 61 (d 5 rfl), cb b31_2 c 1]) rfl,
  fun f s W c d h i j a => opv rfl rfl (by simp [go_sem, a.e 8 k31_8]) rfl,
  fun f s W c d h i j a => opv rfl rfl (by simp [go_sem, a.e 63 (d 7 rfl), IntWalk.i64_in (2000 * t0) (by omega)]) rfl,
  fun f s W c d h i j a => opv rfl rfl (by simp [go_sem, a.e 62 (d 6 rfl), a.e 64 (d 8 rfl), IntWalk.i64_in (((1000 * p1) - cal) - (2000 * t0)) (by omega)]) rfl,
  fun f s W c d h i j a => opv rfl rfl (by simp [go_sem, a.e 5 k31_5, a.e 57 (d 1 rfl)]) rfl, trivial⟩ ?_
 intro f32 s32 W32 hB32 g32 hg32
 have fB32 := hB32.f fB31
 have z32 := hB32.below.size
 have b32_0 := hB32.b b31_0
 have b32_1 := hB32.b b31_1
 have b32_2 := hB32.b b31_2
 have k32_2 := kt hg32 2 k31_2
 have k32_4 := kt hg32 4 k31_4
 have k32_5 := kt hg32 5 k31_5
 have k32_7 := kt hg32 7 k31_7
 have k32_39 := kt hg32 39 k31_39
 have k32_49 := kt hg32 49 k31_49
 have k32_8 := kt hg32 8 k31_8
 have k32_65 := kt hg32 65 (hB32.is 9)
 have k32_66 := kt hg32 66 (hB32.is 10)
 obtain ⟨W33, hW33⟩ : ∃ W', W' = W32.setRow (s2 1) #[.int .i64 ((1000 * p0) - cal), .int .i64 ((1000 * p1) - cal), .int .i64 ((1000 * p2) - cal), .int .i64 ((1000 * p3) - cal), .int .i64 hv, .int .i64 (((1000 * p1) - cal) - (2000 * t0)), .int .i64 0, .int .i64 0, .int .i64 0] := ⟨_, rfl⟩
 refine tail_skip (o := _) rfl ⟨rfl, rfl⟩ (run_seg hW33 (fr_ev k32_66) (fr_ev k32_65) b32_2 rfl rfl rfl rfl) ?_
 obtain ⟨fB33, nb33, ot33, z33⟩ := seg_facts hW33 fB32 b32_2 (by omega)
 clear hW33
 have b33_0 := ot33 _ _ (by omega) b32_0
 have b33_1 := ot33 _ _ (by omega) b32_1
 refine wpOps_end ?_
 refine inBlock_normal ?_
 refine hK33 _ _ ?_
 refine region_dk 3 [(40, 0), (41, 1), (7, 2)] [[], [0], [0, 1]] (rel [is (.int .i64 0),
   is (.int .i64 1),
   is (.int .i64 1)])
  ⟨is_k, is_k, is_k, trivial⟩
  ⟨fun f s W c d h i j a => opv rfl rfl (by simp [go_sem, a.e 7 ((i 2 7 rfl rfl).trans k32_7)]) rfl,
  fun f s W c d h i j a => opv rfl rfl (by simp [go_sem, a.e 40 (d 0 rfl), IntWalk.i64_in (1) (by omega)]) rfl,
  fun f s W c d h i j a => opv rfl rfl (by simp [go_sem, a.e 41 (d 1 rfl)]) rfl, trivial⟩ ?_
 intro f34 s34 W34 hB34 g34 hg34
 have fB34 := hB34.f fB33
 have z34 := hB34.below.size
 have b34_0 := hB34.b b33_0
 have b34_1 := hB34.b b33_1
 have b34_2 := hB34.b nb33
 refine wpOps_end ?_
 have k34_2 := kt hg34 2 k32_2
 have k34_4 := kt hg34 4 k32_4
 have k34_5 := kt hg34 5 k32_5
 have k34_39 := kt hg34 39 k32_39
 have k34_49 := kt hg34 49 k32_49
 have k34_8 := kt hg34 8 k32_8
 have k34_65 := kt hg34 65 k32_65
 have k34_66 := kt hg34 66 k32_66
 have k34_7 := kt hg34 7 (hB34.is 2)
 refine then_normal ?_
 rw [rounds_succ]
 refine wp_seq_k fun K38 hK38 => ?_
 refine wp_seq_k fun K39 hK39 => ?_
 refine region_dk 2 [(38, 0), (39, 1)] [[], [0]] (rel [is (.int .i64 1),
   is (.bool true)])
  ⟨is_k, is_k, trivial⟩
  ⟨fun f s W c d h i j a => opv rfl rfl (by simp [go_sem, a.e 7 k34_7]) rfl,
  fun f s W c d h i j a => opv rfl rfl (by simp [go_sem, a.e 38 (d 0 rfl)]) rfl, trivial⟩ ?_
 intro f35 s35 W35 hB35 g35 hg35
 have fB35 := hB35.f fB34
 have z35 := hB35.below.size
 have b35_0 := hB35.b b34_0
 have b35_1 := hB35.b b34_1
 have b35_2 := hB35.b b34_2
 refine hK39 _ _ ?_
 have k35_2 := kt hg35 2 k34_2
 have k35_4 := kt hg35 4 k34_4
 have k35_5 := kt hg35 5 k34_5
 have k35_49 := kt hg35 49 k34_49
 have k35_8 := kt hg35 8 k34_8
 have k35_65 := kt hg35 65 k34_65
 have k35_66 := kt hg35 66 k34_66
 have k35_7 := kt hg35 7 k34_7
 have k35_39 := kt hg35 39 (hB35.is 1)
 refine wp_cond_true ((fr_eval rfl).trans k35_39) ?_
 refine wp_skip ?_
 refine hK38 _ _ ?_
 refine wp_seq_k fun K41 hK41 => ?_
 refine wp_block ?_
 refine wp_seq_k fun K42 hK42 => ?_
 refine region_dk 7 [(42, 0), (43, 1), (44, 2), (45, 3), (46, 4), (47, 5), (8, 6)] [[], [0], [], [2], [0, 1, 2, 3], [0, 1, 2, 3, 4], [0, 1, 2, 3, 4, 5]] (rel [is (.pointer (some ⟨(s1 0), 4, none⟩)),
   is (.slice (a3) (2) (c3)),
   is (.int .i64 1),
   is (.int .i64 1),
   is (.pointer (some ⟨q3, o3 + 1, none⟩)),
   is (.int .i64 u1),
   is (.int .i64 u1)])
  ⟨is_k, is_k, is_k, is_k, is_k, is_k, is_k, trivial⟩
  ⟨fun f s W c d h i j a => opv rfl rfl (by simp [go_sem, a.e 2 k35_2]) rfl,
  fun f s W c d h i j a => opv rfl rfl (by simp [go_sem, a.e 42 (d 0 rfl), cb b35_0 c 4]) rfl,
  fun f s W c d h i j a => opv rfl rfl (by simp [go_sem, a.e 7 k35_7]) rfl,
  fun f s W c d h i j a => opv rfl rfl (by simp [go_sem, a.e 44 (d 2 rfl)]) rfl,
  fun f s W c d h i j a => opv rfl rfl (by simp [go_sem, a.e 43 (d 1 rfl), a.e 45 (d 3 rfl), hq3]) rfl,
  fun f s W c d h i j a => by have k := below_trans fB35 c; have u_ : W.cell? ⟨q3, o3 + 1, none⟩ = some (.int .i64 (u1)) := (k.cell (p := ⟨q3, o3 + 1, none⟩) hql3).trans (hqc3 1 (by simp)); exact opv rfl rfl (by simp [go_sem, a.e 46 (d 4 rfl), u_]) rfl,
  fun f s W c d h i j a => opv rfl rfl (by simp [go_sem, a.e 47 (d 5 rfl)]) rfl, trivial⟩ ?_
 intro f36 s36 W36 hB36 g36 hg36
 have fB36 := hB36.f fB35
 have z36 := hB36.below.size
 have b36_0 := hB36.b b35_0
 have b36_1 := hB36.b b35_1
 have b36_2 := hB36.b b35_2
 refine hK42 _ _ ?_
 have k36_2 := kt hg36 2 k35_2
 have k36_4 := kt hg36 4 k35_4
 have k36_5 := kt hg36 5 k35_5
 have k36_49 := kt hg36 49 k35_49
 have k36_65 := kt hg36 65 k35_65
 have k36_66 := kt hg36 66 k35_66
 have k36_7 := kt hg36 7 k35_7
 have k36_39 := kt hg36 39 k35_39
 have k36_8 := kt hg36 8 (hB36.is 6)
 refine wp_seq_k fun K43 hK43 => ?_
 refine wp_seq_k fun K44 hK44 => ?_
 refine region_dk 2 [(48, 0), (49, 1)] [[], [0]] (rel [is (.int .i64 1),
   is (.bool true)])
  ⟨is_k, is_k, trivial⟩
  ⟨fun f s W c d h i j a => opv rfl rfl (by simp [go_sem, a.e 7 k36_7]) rfl,
  fun f s W c d h i j a => opv rfl rfl (by simp [go_sem, a.e 48 (d 0 rfl)]) rfl, trivial⟩ ?_
 intro f37 s37 W37 hB37 g37 hg37
 have fB37 := hB37.f fB36
 have z37 := hB37.below.size
 have b37_0 := hB37.b b36_0
 have b37_1 := hB37.b b36_1
 have b37_2 := hB37.b b36_2
 refine hK44 _ _ ?_
 have k37_2 := kt hg37 2 k36_2
 have k37_4 := kt hg37 4 k36_4
 have k37_5 := kt hg37 5 k36_5
 have k37_65 := kt hg37 65 k36_65
 have k37_66 := kt hg37 66 k36_66
 have k37_7 := kt hg37 7 k36_7
 have k37_39 := kt hg37 39 k36_39
 have k37_8 := kt hg37 8 k36_8
 have k37_49 := kt hg37 49 (hB37.is 1)
 refine wp_cond_true ((fr_eval rfl).trans k37_49) ?_
 refine region_dk 7 [(50, 0), (51, 1), (52, 2), (53, 3), (54, 4), (55, 5), (8, 6)] [[], [0], [], [2], [0, 1, 2, 3], [0, 1, 2, 3, 4], [0, 1, 2, 3, 4, 5]] (rel [is (.pointer (some ⟨(s1 0), 3, none⟩)),
   is (.slice (a2) (2) (c2)),
   is (.int .i64 1),
   is (.int .i64 1),
   is (.pointer (some ⟨q2, o2 + 1, none⟩)),
   is (.int .i64 t1),
   is (.int .i64 t1)])
  ⟨is_k, is_k, is_k, is_k, is_k, is_k, is_k, trivial⟩
  ⟨fun f s W c d h i j a => opv rfl rfl (by simp [go_sem, a.e 2 k37_2]) rfl,
  fun f s W c d h i j a => opv rfl rfl (by simp [go_sem, a.e 50 (d 0 rfl), cb b37_0 c 3]) rfl,
  fun f s W c d h i j a => opv rfl rfl (by simp [go_sem, a.e 7 k37_7]) rfl,
  fun f s W c d h i j a => opv rfl rfl (by simp [go_sem, a.e 52 (d 2 rfl)]) rfl,
  fun f s W c d h i j a => opv rfl rfl (by simp [go_sem, a.e 51 (d 1 rfl), a.e 53 (d 3 rfl), hq2]) rfl,
  fun f s W c d h i j a => by have k := below_trans fB37 c; have u_ : W.cell? ⟨q2, o2 + 1, none⟩ = some (.int .i64 (t1)) := (k.cell (p := ⟨q2, o2 + 1, none⟩) hql2).trans (hqc2 1 (by simp)); exact opv rfl rfl (by simp [go_sem, a.e 54 (d 4 rfl), u_]) rfl,
  fun f s W c d h i j a => opv rfl rfl (by simp [go_sem, a.e 55 (d 5 rfl)]) rfl, trivial⟩ ?_
 intro f38 s38 W38 hB38 g38 hg38
 have fB38 := hB38.f fB37
 have z38 := hB38.below.size
 have b38_0 := hB38.b b37_0
 have b38_1 := hB38.b b37_1
 have b38_2 := hB38.b b37_2
 refine hK43 _ _ ?_
 have k38_2 := kt hg38 2 k37_2
 have k38_4 := kt hg38 4 k37_4
 have k38_5 := kt hg38 5 k37_5
 have k38_65 := kt hg38 65 k37_65
 have k38_66 := kt hg38 66 k37_66
 have k38_7 := kt hg38 7 k37_7
 have k38_39 := kt hg38 39 k37_39
 have k38_49 := kt hg38 49 k37_49
 have k38_8 := kt hg38 8 (hB38.is 6)
 refine region_dk 11 [(56, 0), (57, 1), (58, 2), (59, 3), (60, 4), (61, 5), (62, 6), (63, 7), (64, 8), (65, 9), (66, 10)] [[], [0], [], [2], [2, 3], [2, 3, 4], [2, 3, 4, 5], [], [7], [2, 3, 4, 5, 6, 7, 8], [0, 1, 2, 3, 4, 5, 6, 7, 8, 9], [0, 1, 2, 3, 4, 5, 6, 7, 8, 9, 10]] (rel [is (.int .i64 1),
   is (.int .i64 6),
   is (.int .i64 1),
   is (.int .i64 1),
   is (.int .i64 0),
   is (.pointer (some ⟨(s2 1), 0, none⟩)),
   is (.int .i64 ((1000 * p0) - cal)),
   is (.int .i64 t1),
   is (.int .i64 (2000 * t1)),
   is (.int .i64 (((1000 * p0) - cal) - (2000 * t1))),
   is (.pointer (some ⟨(s2 1), 6, none⟩))])
  ⟨is_k, is_k, is_k, is_k, is_k, is_k, is_k, is_k, is_k, is_k, is_k, trivial⟩
  ⟨fun f s W c d h i j a => opv rfl rfl (by simp [go_sem, a.e 7 k38_7]) rfl,
  fun f s W c d h i j a => opv rfl rfl (by simp [go_sem, a.e 56 (d 0 rfl), IntWalk.i64_in (6) (by omega)]) rfl,
  fun f s W c d h i j a => opv rfl rfl (by simp [go_sem, a.e 7 k38_7]) rfl,
  fun f s W c d h i j a => opv rfl rfl (by simp [go_sem, a.e 58 (d 2 rfl)]) rfl,
  fun f s W c d h i j a => opv rfl rfl (by simp [go_sem, a.e 59 (d 3 rfl), IntWalk.i64_in (0) (by omega)]) rfl,
  fun f s W c d h i j a => opv rfl rfl (by simp [go_sem, a.e 5 k38_5, a.e 60 (d 4 rfl)]) rfl,
  fun f s W c d h i j a => opv rfl rfl (by simp [go_sem, a.e 61 (d 5 rfl), cb b38_2 c 0]) rfl,
  fun f s W c d h i j a => opv rfl rfl (by simp [go_sem, a.e 8 k38_8]) rfl,
  fun f s W c d h i j a => opv rfl rfl (by simp [go_sem, a.e 63 (d 7 rfl), IntWalk.i64_in (2000 * t1) (by omega)]) rfl,
  fun f s W c d h i j a => opv rfl rfl (by simp [go_sem, a.e 62 (d 6 rfl), a.e 64 (d 8 rfl), IntWalk.i64_in (((1000 * p0) - cal) - (2000 * t1)) (by omega)]) rfl,
  fun f s W c d h i j a => opv rfl rfl (by simp [go_sem, a.e 5 k38_5, a.e 57 (d 1 rfl)]) rfl, trivial⟩ ?_
 intro f39 s39 W39 hB39 g39 hg39
 have fB39 := hB39.f fB38
 have z39 := hB39.below.size
 have b39_0 := hB39.b b38_0
 have b39_1 := hB39.b b38_1
 have b39_2 := hB39.b b38_2
 have k39_2 := kt hg39 2 k38_2
 have k39_4 := kt hg39 4 k38_4
 have k39_5 := kt hg39 5 k38_5
 have k39_7 := kt hg39 7 k38_7
 have k39_39 := kt hg39 39 k38_39
 have k39_49 := kt hg39 49 k38_49
 have k39_8 := kt hg39 8 k38_8
 have k39_65 := kt hg39 65 (hB39.is 9)
 have k39_66 := kt hg39 66 (hB39.is 10)
 obtain ⟨W40, hW40⟩ : ∃ W', W' = W39.setRow (s2 1) #[.int .i64 ((1000 * p0) - cal), .int .i64 ((1000 * p1) - cal), .int .i64 ((1000 * p2) - cal), .int .i64 ((1000 * p3) - cal), .int .i64 hv, .int .i64 (((1000 * p1) - cal) - (2000 * t0)), .int .i64 (((1000 * p0) - cal) - (2000 * t1)), .int .i64 0, .int .i64 0] := ⟨_, rfl⟩
 refine tail_skip (o := _) rfl ⟨rfl, rfl⟩ (run_seg hW40 (fr_ev k39_66) (fr_ev k39_65) b39_2 rfl rfl rfl rfl) ?_
 obtain ⟨fB40, nb40, ot40, z40⟩ := seg_facts hW40 fB39 b39_2 (by omega)
 clear hW40
 have b40_0 := ot40 _ _ (by omega) b39_0
 have b40_1 := ot40 _ _ (by omega) b39_1
 refine wpOps_end ?_
 refine inBlock_normal ?_
 refine hK41 _ _ ?_
 refine region_dk 3 [(40, 0), (41, 1), (7, 2)] [[], [0], [0, 1]] (rel [is (.int .i64 1),
   is (.int .i64 2),
   is (.int .i64 2)])
  ⟨is_k, is_k, is_k, trivial⟩
  ⟨fun f s W c d h i j a => opv rfl rfl (by simp [go_sem, a.e 7 ((i 2 7 rfl rfl).trans k39_7)]) rfl,
  fun f s W c d h i j a => opv rfl rfl (by simp [go_sem, a.e 40 (d 0 rfl), IntWalk.i64_in (2) (by omega)]) rfl,
  fun f s W c d h i j a => opv rfl rfl (by simp [go_sem, a.e 41 (d 1 rfl)]) rfl, trivial⟩ ?_
 intro f41 s41 W41 hB41 g41 hg41
 have fB41 := hB41.f fB40
 have z41 := hB41.below.size
 have b41_0 := hB41.b b40_0
 have b41_1 := hB41.b b40_1
 have b41_2 := hB41.b nb40
 refine wpOps_end ?_
 have k41_2 := kt hg41 2 k39_2
 have k41_4 := kt hg41 4 k39_4
 have k41_5 := kt hg41 5 k39_5
 have k41_39 := kt hg41 39 k39_39
 have k41_49 := kt hg41 49 k39_49
 have k41_8 := kt hg41 8 k39_8
 have k41_65 := kt hg41 65 k39_65
 have k41_66 := kt hg41 66 k39_66
 have k41_7 := kt hg41 7 (hB41.is 2)
 refine then_normal ?_
 rw [rounds_succ]
 refine wp_seq_k fun K46 hK46 => ?_
 refine wp_seq_k fun K47 hK47 => ?_
 refine region_dk 2 [(38, 0), (39, 1)] [[], [0]] (rel [is (.int .i64 2),
   is (.bool true)])
  ⟨is_k, is_k, trivial⟩
  ⟨fun f s W c d h i j a => opv rfl rfl (by simp [go_sem, a.e 7 k41_7]) rfl,
  fun f s W c d h i j a => opv rfl rfl (by simp [go_sem, a.e 38 (d 0 rfl)]) rfl, trivial⟩ ?_
 intro f42 s42 W42 hB42 g42 hg42
 have fB42 := hB42.f fB41
 have z42 := hB42.below.size
 have b42_0 := hB42.b b41_0
 have b42_1 := hB42.b b41_1
 have b42_2 := hB42.b b41_2
 refine hK47 _ _ ?_
 have k42_2 := kt hg42 2 k41_2
 have k42_4 := kt hg42 4 k41_4
 have k42_5 := kt hg42 5 k41_5
 have k42_49 := kt hg42 49 k41_49
 have k42_8 := kt hg42 8 k41_8
 have k42_65 := kt hg42 65 k41_65
 have k42_66 := kt hg42 66 k41_66
 have k42_7 := kt hg42 7 k41_7
 have k42_39 := kt hg42 39 (hB42.is 1)
 refine wp_cond_true ((fr_eval rfl).trans k42_39) ?_
 refine wp_skip ?_
 refine hK46 _ _ ?_
 refine wp_seq_k fun K49 hK49 => ?_
 refine wp_block ?_
 refine wp_seq_k fun K50 hK50 => ?_
 refine region_dk 7 [(42, 0), (43, 1), (44, 2), (45, 3), (46, 4), (47, 5), (8, 6)] [[], [0], [], [2], [0, 1, 2, 3], [0, 1, 2, 3, 4], [0, 1, 2, 3, 4, 5]] (rel [is (.pointer (some ⟨(s1 0), 4, none⟩)),
   is (.slice (a3) (2) (c3)),
   is (.int .i64 2),
   is (.int .i64 0),
   is (.pointer (some ⟨q3, o3, none⟩)),
   is (.int .i64 u0),
   is (.int .i64 u0)])
  ⟨is_k, is_k, is_k, is_k, is_k, is_k, is_k, trivial⟩
  ⟨fun f s W c d h i j a => opv rfl rfl (by simp [go_sem, a.e 2 k42_2]) rfl,
  fun f s W c d h i j a => opv rfl rfl (by simp [go_sem, a.e 42 (d 0 rfl), cb b42_0 c 4]) rfl,
  fun f s W c d h i j a => opv rfl rfl (by simp [go_sem, a.e 7 k42_7]) rfl,
  fun f s W c d h i j a => opv rfl rfl (by simp [go_sem, a.e 44 (d 2 rfl)]) rfl,
  fun f s W c d h i j a => opv rfl rfl (by simp [go_sem, a.e 43 (d 1 rfl), a.e 45 (d 3 rfl), hq3]) rfl,
  fun f s W c d h i j a => by have k := below_trans fB42 c; have u_ : W.cell? ⟨q3, o3, none⟩ = some (.int .i64 (u0)) := (k.cell (p := ⟨q3, o3, none⟩) hql3).trans (hqc3 0 (by simp)); exact opv rfl rfl (by simp [go_sem, a.e 46 (d 4 rfl), u_]) rfl,
  fun f s W c d h i j a => opv rfl rfl (by simp [go_sem, a.e 47 (d 5 rfl)]) rfl, trivial⟩ ?_
 intro f43 s43 W43 hB43 g43 hg43
 have fB43 := hB43.f fB42
 have z43 := hB43.below.size
 have b43_0 := hB43.b b42_0
 have b43_1 := hB43.b b42_1
 have b43_2 := hB43.b b42_2
 refine hK50 _ _ ?_
 have k43_2 := kt hg43 2 k42_2
 have k43_4 := kt hg43 4 k42_4
 have k43_5 := kt hg43 5 k42_5
 have k43_49 := kt hg43 49 k42_49
 have k43_65 := kt hg43 65 k42_65
 have k43_66 := kt hg43 66 k42_66
 have k43_7 := kt hg43 7 k42_7
 have k43_39 := kt hg43 39 k42_39
 have k43_8 := kt hg43 8 (hB43.is 6)
 refine wp_seq_k fun K51 hK51 => ?_
 refine wp_seq_k fun K52 hK52 => ?_
 refine region_dk 2 [(48, 0), (49, 1)] [[], [0]] (rel [is (.int .i64 2),
   is (.bool false)])
  ⟨is_k, is_k, trivial⟩
  ⟨fun f s W c d h i j a => opv rfl rfl (by simp [go_sem, a.e 7 k43_7]) rfl,
  fun f s W c d h i j a => opv rfl rfl (by simp [go_sem, a.e 48 (d 0 rfl)]) rfl, trivial⟩ ?_
 intro f44 s44 W44 hB44 g44 hg44
 have fB44 := hB44.f fB43
 have z44 := hB44.below.size
 have b44_0 := hB44.b b43_0
 have b44_1 := hB44.b b43_1
 have b44_2 := hB44.b b43_2
 refine hK52 _ _ ?_
 have k44_2 := kt hg44 2 k43_2
 have k44_4 := kt hg44 4 k43_4
 have k44_5 := kt hg44 5 k43_5
 have k44_65 := kt hg44 65 k43_65
 have k44_66 := kt hg44 66 k43_66
 have k44_7 := kt hg44 7 k43_7
 have k44_39 := kt hg44 39 k43_39
 have k44_8 := kt hg44 8 k43_8
 have k44_49 := kt hg44 49 (hB44.is 1)
 refine wp_cond_false ((fr_eval rfl).trans k44_49) ?_
 refine wp_skip ?_
 refine hK51 _ _ ?_
 refine region_dk 11 [(56, 0), (57, 1), (58, 2), (59, 3), (60, 4), (61, 5), (62, 6), (63, 7), (64, 8), (65, 9), (66, 10)] [[], [0], [], [2], [2, 3], [2, 3, 4], [2, 3, 4, 5], [], [7], [2, 3, 4, 5, 6, 7, 8], [0, 1, 2, 3, 4, 5, 6, 7, 8, 9], [0, 1, 2, 3, 4, 5, 6, 7, 8, 9, 10]] (rel [is (.int .i64 2),
   is (.int .i64 7),
   is (.int .i64 2),
   is (.int .i64 0),
   is (.int .i64 1),
   is (.pointer (some ⟨(s2 1), 1, none⟩)),
   is (.int .i64 ((1000 * p1) - cal)),
   is (.int .i64 u0),
   is (.int .i64 (2000 * u0)),
   is (.int .i64 (((1000 * p1) - cal) - (2000 * u0))),
   is (.pointer (some ⟨(s2 1), 7, none⟩))])
  ⟨is_k, is_k, is_k, is_k, is_k, is_k, is_k, is_k, is_k, is_k, is_k, trivial⟩
  ⟨fun f s W c d h i j a => opv rfl rfl (by simp [go_sem, a.e 7 k44_7]) rfl,
  fun f s W c d h i j a => opv rfl rfl (by simp [go_sem, a.e 56 (d 0 rfl), IntWalk.i64_in (7) (by omega)]) rfl,
  fun f s W c d h i j a => opv rfl rfl (by simp [go_sem, a.e 7 k44_7]) rfl,
  fun f s W c d h i j a => opv rfl rfl (by simp [go_sem, a.e 58 (d 2 rfl)]) rfl,
  fun f s W c d h i j a => opv rfl rfl (by simp [go_sem, a.e 59 (d 3 rfl), IntWalk.i64_in (1) (by omega)]) rfl,
  fun f s W c d h i j a => opv rfl rfl (by simp [go_sem, a.e 5 k44_5, a.e 60 (d 4 rfl)]) rfl,
  fun f s W c d h i j a => opv rfl rfl (by simp [go_sem, a.e 61 (d 5 rfl), cb b44_2 c 1]) rfl,
  fun f s W c d h i j a => opv rfl rfl (by simp [go_sem, a.e 8 k44_8]) rfl,
  fun f s W c d h i j a => opv rfl rfl (by simp [go_sem, a.e 63 (d 7 rfl), IntWalk.i64_in (2000 * u0) (by omega)]) rfl,
  fun f s W c d h i j a => opv rfl rfl (by simp [go_sem, a.e 62 (d 6 rfl), a.e 64 (d 8 rfl), IntWalk.i64_in (((1000 * p1) - cal) - (2000 * u0)) (by omega)]) rfl,
  fun f s W c d h i j a => opv rfl rfl (by simp [go_sem, a.e 5 k44_5, a.e 57 (d 1 rfl)]) rfl, trivial⟩ ?_
 intro f45 s45 W45 hB45 g45 hg45
 have fB45 := hB45.f fB44
 have z45 := hB45.below.size
 have b45_0 := hB45.b b44_0
 have b45_1 := hB45.b b44_1
 have b45_2 := hB45.b b44_2
 have k45_2 := kt hg45 2 k44_2
 have k45_4 := kt hg45 4 k44_4
 have k45_5 := kt hg45 5 k44_5
 have k45_7 := kt hg45 7 k44_7
 have k45_39 := kt hg45 39 k44_39
 have k45_8 := kt hg45 8 k44_8
 have k45_49 := kt hg45 49 k44_49
 have k45_65 := kt hg45 65 (hB45.is 9)
 have k45_66 := kt hg45 66 (hB45.is 10)
 obtain ⟨W46, hW46⟩ : ∃ W', W' = W45.setRow (s2 1) #[.int .i64 ((1000 * p0) - cal), .int .i64 ((1000 * p1) - cal), .int .i64 ((1000 * p2) - cal), .int .i64 ((1000 * p3) - cal), .int .i64 hv, .int .i64 (((1000 * p1) - cal) - (2000 * t0)), .int .i64 (((1000 * p0) - cal) - (2000 * t1)), .int .i64 (((1000 * p1) - cal) - (2000 * u0)), .int .i64 0] := ⟨_, rfl⟩
 refine tail_skip (o := _) rfl ⟨rfl, rfl⟩ (run_seg hW46 (fr_ev k45_66) (fr_ev k45_65) b45_2 rfl rfl rfl rfl) ?_
 obtain ⟨fB46, nb46, ot46, z46⟩ := seg_facts hW46 fB45 b45_2 (by omega)
 clear hW46
 have b46_0 := ot46 _ _ (by omega) b45_0
 have b46_1 := ot46 _ _ (by omega) b45_1
 refine wpOps_end ?_
 refine inBlock_normal ?_
 refine hK49 _ _ ?_
 refine region_dk 3 [(40, 0), (41, 1), (7, 2)] [[], [0], [0, 1]] (rel [is (.int .i64 2),
   is (.int .i64 3),
   is (.int .i64 3)])
  ⟨is_k, is_k, is_k, trivial⟩
  ⟨fun f s W c d h i j a => opv rfl rfl (by simp [go_sem, a.e 7 ((i 2 7 rfl rfl).trans k45_7)]) rfl,
  fun f s W c d h i j a => opv rfl rfl (by simp [go_sem, a.e 40 (d 0 rfl), IntWalk.i64_in (3) (by omega)]) rfl,
  fun f s W c d h i j a => opv rfl rfl (by simp [go_sem, a.e 41 (d 1 rfl)]) rfl, trivial⟩ ?_
 intro f47 s47 W47 hB47 g47 hg47
 have fB47 := hB47.f fB46
 have z47 := hB47.below.size
 have b47_0 := hB47.b b46_0
 have b47_1 := hB47.b b46_1
 have b47_2 := hB47.b nb46
 refine wpOps_end ?_
 have k47_2 := kt hg47 2 k45_2
 have k47_4 := kt hg47 4 k45_4
 have k47_5 := kt hg47 5 k45_5
 have k47_39 := kt hg47 39 k45_39
 have k47_8 := kt hg47 8 k45_8
 have k47_49 := kt hg47 49 k45_49
 have k47_65 := kt hg47 65 k45_65
 have k47_66 := kt hg47 66 k45_66
 have k47_7 := kt hg47 7 (hB47.is 2)
 refine then_normal ?_
 rw [rounds_succ]
 refine wp_seq_k fun K54 hK54 => ?_
 refine wp_seq_k fun K55 hK55 => ?_
 refine region_dk 2 [(38, 0), (39, 1)] [[], [0]] (rel [is (.int .i64 3),
   is (.bool true)])
  ⟨is_k, is_k, trivial⟩
  ⟨fun f s W c d h i j a => opv rfl rfl (by simp [go_sem, a.e 7 k47_7]) rfl,
  fun f s W c d h i j a => opv rfl rfl (by simp [go_sem, a.e 38 (d 0 rfl)]) rfl, trivial⟩ ?_
 intro f48 s48 W48 hB48 g48 hg48
 have fB48 := hB48.f fB47
 have z48 := hB48.below.size
 have b48_0 := hB48.b b47_0
 have b48_1 := hB48.b b47_1
 have b48_2 := hB48.b b47_2
 refine hK55 _ _ ?_
 have k48_2 := kt hg48 2 k47_2
 have k48_4 := kt hg48 4 k47_4
 have k48_5 := kt hg48 5 k47_5
 have k48_8 := kt hg48 8 k47_8
 have k48_49 := kt hg48 49 k47_49
 have k48_65 := kt hg48 65 k47_65
 have k48_66 := kt hg48 66 k47_66
 have k48_7 := kt hg48 7 k47_7
 have k48_39 := kt hg48 39 (hB48.is 1)
 refine wp_cond_true ((fr_eval rfl).trans k48_39) ?_
 refine wp_skip ?_
 refine hK54 _ _ ?_
 refine wp_seq_k fun K57 hK57 => ?_
 refine wp_block ?_
 refine wp_seq_k fun K58 hK58 => ?_
 refine region_dk 7 [(42, 0), (43, 1), (44, 2), (45, 3), (46, 4), (47, 5), (8, 6)] [[], [0], [], [2], [0, 1, 2, 3], [0, 1, 2, 3, 4], [0, 1, 2, 3, 4, 5]] (rel [is (.pointer (some ⟨(s1 0), 4, none⟩)),
   is (.slice (a3) (2) (c3)),
   is (.int .i64 3),
   is (.int .i64 1),
   is (.pointer (some ⟨q3, o3 + 1, none⟩)),
   is (.int .i64 u1),
   is (.int .i64 u1)])
  ⟨is_k, is_k, is_k, is_k, is_k, is_k, is_k, trivial⟩
  ⟨fun f s W c d h i j a => opv rfl rfl (by simp [go_sem, a.e 2 k48_2]) rfl,
  fun f s W c d h i j a => opv rfl rfl (by simp [go_sem, a.e 42 (d 0 rfl), cb b48_0 c 4]) rfl,
  fun f s W c d h i j a => opv rfl rfl (by simp [go_sem, a.e 7 k48_7]) rfl,
  fun f s W c d h i j a => opv rfl rfl (by simp [go_sem, a.e 44 (d 2 rfl)]) rfl,
  fun f s W c d h i j a => opv rfl rfl (by simp [go_sem, a.e 43 (d 1 rfl), a.e 45 (d 3 rfl), hq3]) rfl,
  fun f s W c d h i j a => by have k := below_trans fB48 c; have u_ : W.cell? ⟨q3, o3 + 1, none⟩ = some (.int .i64 (u1)) := (k.cell (p := ⟨q3, o3 + 1, none⟩) hql3).trans (hqc3 1 (by simp)); exact opv rfl rfl (by simp [go_sem, a.e 46 (d 4 rfl), u_]) rfl,
  fun f s W c d h i j a => opv rfl rfl (by simp [go_sem, a.e 47 (d 5 rfl)]) rfl, trivial⟩ ?_
 intro f49 s49 W49 hB49 g49 hg49
 have fB49 := hB49.f fB48
 have z49 := hB49.below.size
 have b49_0 := hB49.b b48_0
 have b49_1 := hB49.b b48_1
 have b49_2 := hB49.b b48_2
 refine hK58 _ _ ?_
 have k49_2 := kt hg49 2 k48_2
 have k49_4 := kt hg49 4 k48_4
 have k49_5 := kt hg49 5 k48_5
 have k49_49 := kt hg49 49 k48_49
 have k49_65 := kt hg49 65 k48_65
 have k49_66 := kt hg49 66 k48_66
 have k49_7 := kt hg49 7 k48_7
 have k49_39 := kt hg49 39 k48_39
 have k49_8 := kt hg49 8 (hB49.is 6)
 refine wp_seq_k fun K59 hK59 => ?_
 refine wp_seq_k fun K60 hK60 => ?_
 refine region_dk 2 [(48, 0), (49, 1)] [[], [0]] (rel [is (.int .i64 3),
   is (.bool false)])
  ⟨is_k, is_k, trivial⟩
  ⟨fun f s W c d h i j a => opv rfl rfl (by simp [go_sem, a.e 7 k49_7]) rfl,
  fun f s W c d h i j a => opv rfl rfl (by simp [go_sem, a.e 48 (d 0 rfl)]) rfl, trivial⟩ ?_
 intro f50 s50 W50 hB50 g50 hg50
 have fB50 := hB50.f fB49
 have z50 := hB50.below.size
 have b50_0 := hB50.b b49_0
 have b50_1 := hB50.b b49_1
 have b50_2 := hB50.b b49_2
 refine hK60 _ _ ?_
 have k50_2 := kt hg50 2 k49_2
 have k50_4 := kt hg50 4 k49_4
 have k50_5 := kt hg50 5 k49_5
 have k50_65 := kt hg50 65 k49_65
 have k50_66 := kt hg50 66 k49_66
 have k50_7 := kt hg50 7 k49_7
 have k50_39 := kt hg50 39 k49_39
 have k50_8 := kt hg50 8 k49_8
 have k50_49 := kt hg50 49 (hB50.is 1)
 refine wp_cond_false ((fr_eval rfl).trans k50_49) ?_
 refine wp_skip ?_
 refine hK59 _ _ ?_
 refine region_dk 11 [(56, 0), (57, 1), (58, 2), (59, 3), (60, 4), (61, 5), (62, 6), (63, 7), (64, 8), (65, 9), (66, 10)] [[], [0], [], [2], [2, 3], [2, 3, 4], [2, 3, 4, 5], [], [7], [2, 3, 4, 5, 6, 7, 8], [0, 1, 2, 3, 4, 5, 6, 7, 8, 9], [0, 1, 2, 3, 4, 5, 6, 7, 8, 9, 10]] (rel [is (.int .i64 3),
   is (.int .i64 8),
   is (.int .i64 3),
   is (.int .i64 1),
   is (.int .i64 0),
   is (.pointer (some ⟨(s2 1), 0, none⟩)),
   is (.int .i64 ((1000 * p0) - cal)),
   is (.int .i64 u1),
   is (.int .i64 (2000 * u1)),
   is (.int .i64 (((1000 * p0) - cal) - (2000 * u1))),
   is (.pointer (some ⟨(s2 1), 8, none⟩))])
  ⟨is_k, is_k, is_k, is_k, is_k, is_k, is_k, is_k, is_k, is_k, is_k, trivial⟩
  ⟨fun f s W c d h i j a => opv rfl rfl (by simp [go_sem, a.e 7 k50_7]) rfl,
  fun f s W c d h i j a => opv rfl rfl (by simp [go_sem, a.e 56 (d 0 rfl), IntWalk.i64_in (8) (by omega)]) rfl,
  fun f s W c d h i j a => opv rfl rfl (by simp [go_sem, a.e 7 k50_7]) rfl,
  fun f s W c d h i j a => opv rfl rfl (by simp [go_sem, a.e 58 (d 2 rfl)]) rfl,
  fun f s W c d h i j a => opv rfl rfl (by simp [go_sem, a.e 59 (d 3 rfl), IntWalk.i64_in (0) (by omega)]) rfl,
  fun f s W c d h i j a => opv rfl rfl (by simp [go_sem, a.e 5 k50_5, a.e 60 (d 4 rfl)]) rfl,
  fun f s W c d h i j a => opv rfl rfl (by simp [go_sem, a.e 61 (d 5 rfl), cb b50_2 c 0]) rfl,
  fun f s W c d h i j a => opv rfl rfl (by simp [go_sem, a.e 8 k50_8]) rfl,
  fun f s W c d h i j a => opv rfl rfl (by simp [go_sem, a.e 63 (d 7 rfl), IntWalk.i64_in (2000 * u1) (by omega)]) rfl,
  fun f s W c d h i j a => opv rfl rfl (by simp [go_sem, a.e 62 (d 6 rfl), a.e 64 (d 8 rfl), IntWalk.i64_in (((1000 * p0) - cal) - (2000 * u1)) (by omega)]) rfl,
  fun f s W c d h i j a => opv rfl rfl (by simp [go_sem, a.e 5 k50_5, a.e 57 (d 1 rfl)]) rfl, trivial⟩ ?_
 intro f51 s51 W51 hB51 g51 hg51
 have fB51 := hB51.f fB50
 have z51 := hB51.below.size
 have b51_0 := hB51.b b50_0
 have b51_1 := hB51.b b50_1
 have b51_2 := hB51.b b50_2
 have k51_2 := kt hg51 2 k50_2
 have k51_4 := kt hg51 4 k50_4
 have k51_5 := kt hg51 5 k50_5
 have k51_7 := kt hg51 7 k50_7
 have k51_39 := kt hg51 39 k50_39
 have k51_8 := kt hg51 8 k50_8
 have k51_49 := kt hg51 49 k50_49
 have k51_65 := kt hg51 65 (hB51.is 9)
 have k51_66 := kt hg51 66 (hB51.is 10)
 obtain ⟨W52, hW52⟩ : ∃ W', W' = W51.setRow (s2 1) #[.int .i64 ((1000 * p0) - cal), .int .i64 ((1000 * p1) - cal), .int .i64 ((1000 * p2) - cal), .int .i64 ((1000 * p3) - cal), .int .i64 hv, .int .i64 (((1000 * p1) - cal) - (2000 * t0)), .int .i64 (((1000 * p0) - cal) - (2000 * t1)), .int .i64 (((1000 * p1) - cal) - (2000 * u0)), .int .i64 (((1000 * p0) - cal) - (2000 * u1))] := ⟨_, rfl⟩
 refine tail_skip (o := _) rfl ⟨rfl, rfl⟩ (run_seg hW52 (fr_ev k51_66) (fr_ev k51_65) b51_2 rfl rfl rfl rfl) ?_
 obtain ⟨fB52, nb52, ot52, z52⟩ := seg_facts hW52 fB51 b51_2 (by omega)
 clear hW52
 have b52_0 := ot52 _ _ (by omega) b51_0
 have b52_1 := ot52 _ _ (by omega) b51_1
 refine wpOps_end ?_
 refine inBlock_normal ?_
 refine hK57 _ _ ?_
 refine region_dk 3 [(40, 0), (41, 1), (7, 2)] [[], [0], [0, 1]] (rel [is (.int .i64 3),
   is (.int .i64 4),
   is (.int .i64 4)])
  ⟨is_k, is_k, is_k, trivial⟩
  ⟨fun f s W c d h i j a => opv rfl rfl (by simp [go_sem, a.e 7 ((i 2 7 rfl rfl).trans k51_7)]) rfl,
  fun f s W c d h i j a => opv rfl rfl (by simp [go_sem, a.e 40 (d 0 rfl), IntWalk.i64_in (4) (by omega)]) rfl,
  fun f s W c d h i j a => opv rfl rfl (by simp [go_sem, a.e 41 (d 1 rfl)]) rfl, trivial⟩ ?_
 intro f53 s53 W53 hB53 g53 hg53
 have fB53 := hB53.f fB52
 have z53 := hB53.below.size
 have b53_0 := hB53.b b52_0
 have b53_1 := hB53.b b52_1
 have b53_2 := hB53.b nb52
 refine wpOps_end ?_
 have k53_2 := kt hg53 2 k51_2
 have k53_4 := kt hg53 4 k51_4
 have k53_5 := kt hg53 5 k51_5
 have k53_39 := kt hg53 39 k51_39
 have k53_8 := kt hg53 8 k51_8
 have k53_49 := kt hg53 49 k51_49
 have k53_65 := kt hg53 65 k51_65
 have k53_66 := kt hg53 66 k51_66
 have k53_7 := kt hg53 7 (hB53.is 2)
 refine then_normal ?_
 rw [rounds_succ]
 refine wp_seq_k fun K62 hK62 => ?_
 refine wp_seq_k fun K63 hK63 => ?_
 refine region_dk 2 [(38, 0), (39, 1)] [[], [0]] (rel [is (.int .i64 4),
   is (.bool false)])
  ⟨is_k, is_k, trivial⟩
  ⟨fun f s W c d h i j a => opv rfl rfl (by simp [go_sem, a.e 7 k53_7]) rfl,
  fun f s W c d h i j a => opv rfl rfl (by simp [go_sem, a.e 38 (d 0 rfl)]) rfl, trivial⟩ ?_
 intro f54 s54 W54 hB54 g54 hg54
 have fB54 := hB54.f fB53
 have z54 := hB54.below.size
 have b54_0 := hB54.b b53_0
 have b54_1 := hB54.b b53_1
 have b54_2 := hB54.b b53_2
 refine hK63 _ _ ?_
 have k54_2 := kt hg54 2 k53_2
 have k54_4 := kt hg54 4 k53_4
 have k54_5 := kt hg54 5 k53_5
 have k54_8 := kt hg54 8 k53_8
 have k54_49 := kt hg54 49 k53_49
 have k54_65 := kt hg54 65 k53_65
 have k54_66 := kt hg54 66 k53_66
 have k54_7 := kt hg54 7 k53_7
 have k54_39 := kt hg54 39 (hB54.is 1)
 refine wp_cond_false ((fr_eval rfl).trans k54_39) ?_
 refine wp_exit ?_
 refine then_exit ?_
 refine then_exit ?_
 refine inBlock_at ?_
 refine hK28 _ _ ?_
 refine wp_seq_k fun K65 hK65 => ?_
 refine region_dk 1 [(67, 0)] [[], [0]] (rel [is (.agg #[.int .i64 ((1000 * p0) - cal), .int .i64 ((1000 * p1) - cal), .int .i64 ((1000 * p2) - cal), .int .i64 ((1000 * p3) - cal), .int .i64 hv, .int .i64 (((1000 * p1) - cal) - (2000 * t0)), .int .i64 (((1000 * p0) - cal) - (2000 * t1)), .int .i64 (((1000 * p1) - cal) - (2000 * u0)), .int .i64 (((1000 * p0) - cal) - (2000 * u1))])])
  ⟨is_k, trivial⟩
  ⟨fun f s W c d h i j a => opv rfl rfl (by simp [go_sem, a.e 5 k54_5, cb b54_2 c 0, cb b54_2 c 1, cb b54_2 c 2, cb b54_2 c 3, cb b54_2 c 4, cb b54_2 c 5, cb b54_2 c 6, cb b54_2 c 7, cb b54_2 c 8]) rfl, trivial⟩ ?_
 intro f55 s55 W55 hB55 g55 hg55
 have fB55 := hB55.f fB54
 have z55 := hB55.below.size
 have b55_0 := hB55.b b54_0
 have b55_1 := hB55.b b54_1
 have b55_2 := hB55.b b54_2
 have k55_4 := kt hg55 4 k54_4
 have k55_67 := kt hg55 67 (hB55.is 0)
 obtain ⟨W56, hW56⟩ : ∃ W', W' = W55.setRow (s1 1) #[.int .i64 ((1000 * p0) - cal), .int .i64 ((1000 * p1) - cal), .int .i64 ((1000 * p2) - cal), .int .i64 ((1000 * p3) - cal), .int .i64 hv, .int .i64 (((1000 * p1) - cal) - (2000 * t0)), .int .i64 (((1000 * p0) - cal) - (2000 * t1)), .int .i64 (((1000 * p1) - cal) - (2000 * u0)), .int .i64 (((1000 * p0) - cal) - (2000 * u1))] := ⟨_, rfl⟩
 refine tail_skip (o := _) rfl ⟨rfl, rfl⟩ (run_seg hW56 (fr_ev k55_4) (fr_ev k55_67) b55_1 rfl rfl rfl rfl) ?_
 obtain ⟨fB56, nb56, ot56, z56⟩ := seg_facts hW56 fB55 b55_1 (by omega)
 clear hW56
 have b56_0 := ot56 _ _ (by omega) b55_0
 have b56_2 := ot56 _ _ (by omega) b55_2
 refine wpOps_end ?_
 refine hK65 _ _ ?_
 refine wp_ret ?_
 refine leave_gen (v := .agg #[.int .i64 ((1000 * p0) - cal), .int .i64 ((1000 * p1) - cal), .int .i64 ((1000 * p2) - cal), .int .i64 ((1000 * p3) - cal), .int .i64 hv, .int .i64 (((1000 * p1) - cal) - (2000 * t0)), .int .i64 (((1000 * p0) - cal) - (2000 * t1)), .int .i64 (((1000 * p1) - cal) - (2000 * u0)), .int .i64 (((1000 * p0) - cal) - (2000 * u1))]) (.inr rfl) (by simp [results, Try.results26, go_sem, frv 68 k55_4, cl nb56 0, cl nb56 1, cl nb56 2, cl nb56 3, cl nb56 4, cl nb56 5, cl nb56 6, cl nb56 7, cl nb56 8]) ?_
 subst jp_0
 exact ⟨rfl, fB56⟩
end Go.Proofs.Ythnediamopehfaa
