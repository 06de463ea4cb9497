/- Part of the proof: what the claim leans on. -/
import Derived.Test.YthnediamopehfaaWAK
import Derived.Test.YthnediamopehfaaWAB
import Derived.RangeFuncNested
import Derived.RangeFuncBound
import Derived.RangeFuncCalls
import Derived.RangeFuncLeaves
import Derived.Shelf.Abstract
import Derived.Shelf.RegionOpen
import Derived.WalkKit
import Derived.OwnWalkIn
import Derived.TacticsInMore
import Derived.LoopNIn
import Derived.LoopIn
set_option linter.unusedSimpArgs false
set_option linter.unusedVariables false
namespace Go.Proofs.Ythnediamopehfaa
open Go.RowKit
def isInOf (long cal c : Int) (s : Sp) : Bool := decide (1000 * s.1 ≤ 1000 * long - cal * c) && decide (1000 * long - cal * c ≤ 1000 * s.2)
set_option maxRecDepth 100000 in
set_option maxHeartbeats 400000 in
theorem isIn_any (long cal caliper lo hi : Int) (w : World) (h1 : -100000 ≤ long) (h2 : long ≤ 100000) (h3 : 0 ≤ cal) (h4 : cal ≤ 10) (h5 : 0 ≤ caliper) (h6 : caliper ≤ 100000) (h7 : -10000 ≤ lo) (h8 : lo ≤ 10000) (h9 : -10000 ≤ hi) (h10 : hi ≤ 10000) :
  Calls Try.prog 80 #[.int .i64 long, .int .i64 cal, .int .i64 caliper, .agg #[.int .i64 lo, .int .i64 hi]] w (fun e w' => e = .returned (.bool (isInOf long cal caliper (lo, hi))) ∧ Below w.heap.size w w') := by
 refine calls_fr Try.func80 Try.ntmps80 rfl rfl fun g hg => ?_
 have k0 : g 0 = .int .i64 long := hg 0
 have k1 : g 1 = .int .i64 cal := hg 1
 have k2 : g 2 = .int .i64 caliper := hg 2
 have k3 : g 3 = .agg #[.int .i64 lo, .int .i64 hi] := hg 3
 clear hg
 have fB0 : Below w.heap.size w w := Below.refl _ _
 refine wp_seq_k fun K1 hK1 => ?_
 refine region_dk 2 [(7, 0), (8, 1)] [[], []] (rel [bx 0 #[.int .i64 lo, .int .i64 hi] 37,
   is (.bool false)])
  ⟨bx_k, is_k, trivial⟩
  ⟨fun f s W h i j k a ha => opb rfl rfl (by simp [go_sem, ha.e 3 k3]),
  fun f s W h i j k a ha => opv rfl rfl (by simp [go_sem]) rfl, trivial⟩ ?_
 intro f1 s1 W1 hB1 g1 hg1
 have fB1 := hB1.f fB0
 have z1 := hB1.below.size
 obtain ⟨r1_0, br1_0⟩ := hB1.is 0
 have lr1_0 := hB1.lr 0 br1_0
 refine hK1 _ _ ?_
 have k1_0 := kt hg1 0 k0
 have k1_1 := kt hg1 1 k1
 have k1_2 := kt hg1 2 k2
 have k1_7 := kt hg1 7 r1_0
 have k1_8 := kt hg1 8 (hB1.is 1)
 refine wp_seq_k fun K2 hK2 => ?_
 refine region_dk 6 [(10, 0), (11, 1), (12, 2), (13, 3), (14, 4), (9, 5)] [[], [], [0, 1], [], [0, 1, 2, 3], [0, 1, 2, 3, 4]] (rel [is (.int .i64 long),
   is (.int .i64 cal),
   is (.agg #[.int .i64 long, .int .i64 cal]),
   is (.int .i64 caliper),
   is (.int .i64 (1000 * long - cal * caliper)),
   is (.int .i64 (1000 * long - cal * caliper))])
  ⟨is_k, is_k, is_k, is_k, is_k, is_k, trivial⟩
  ⟨fun f s W h i j k a ha => opv rfl rfl (by simp [go_sem, ha.e 0 k1_0]) rfl,
  fun f s W h i j k a ha => opv rfl rfl (by simp [go_sem, ha.e 1 k1_1]) rfl,
  fun f s W h i j k a ha => opv rfl rfl (by simp [go_sem, ha.e 10 (i 0 rfl), ha.e 11 (i 1 rfl)]) rfl,
  fun f s W h i j k a ha => opv rfl rfl (by simp [go_sem, ha.e 2 k1_2]) rfl,
  fun f s W h i j k a ha => opc rfl rfl (by simp [go_sem, ha.e 12 (i 2 rfl), ha.e 13 (i 3 rfl)]) (with_any long cal caliper W h1 h2 h3 h4 h5 h6),
  fun f s W h i j k a ha => opv rfl rfl (by simp [go_sem, ha.e 14 (i 4 rfl)]) rfl, trivial⟩ ?_
 intro f2 s2 W2 hB2 g2 hg2
 have fB2 := hB2.f fB1
 have z2 := hB2.below.size
 have b2_0 := hB2.b br1_0
 refine hK2 _ _ ?_
 have k2_7 := kt hg2 7 k1_7
 have k2_8 := kt hg2 8 k1_8
 have k2_9 := kt hg2 9 (hB2.is 5)
 refine wp_seq_k fun K3 hK3 => ?_
 refine region_dk 13 [(15, 0), (16, 1), (17, 2), (18, 3), (19, 4), (20, 5), (21, 6), (22, 7), (23, 8), (24, 9), (25, 10), (26, 11), (8, 12)] [[], [], [1], [1, 2], [0, 1, 2, 3], [0, 1, 2, 3, 4], [0, 1, 2, 3, 4, 5], [0, 1, 2, 3, 4, 5], [0, 1, 2, 3, 4, 5, 7], [0, 1, 2, 3, 4, 5, 7, 8], [0, 1, 2, 3, 4, 5, 6, 7, 8, 9], [0, 1, 2, 3, 4, 5, 6, 7, 8, 9, 10], [0, 1, 2, 3, 4, 5, 6, 7, 8, 9, 10, 11]] (rel [is (.int .i64 (1000 * long - cal * caliper)),
   is (.pointer (some ⟨(s1 0), 0, none⟩)),
   is (.int .i64 lo),
   is (.int .i64 (1000 * lo)),
   is (.bool (decide ((1000 * lo) ≤ (1000 * long - cal * caliper)))),
   is (.bool (decide ((1000 * lo) ≤ (1000 * long - cal * caliper)))),
   gd (decide ((1000 * lo) ≤ (1000 * long - cal * caliper))) true (is (.int .i64 (1000 * long - cal * caliper))),
   gd (decide ((1000 * lo) ≤ (1000 * long - cal * caliper))) true (is (.pointer (some ⟨(s1 0), 1, none⟩))),
   gd (decide ((1000 * lo) ≤ (1000 * long - cal * caliper))) true (is (.int .i64 hi)),
   gd (decide ((1000 * lo) ≤ (1000 * long - cal * caliper))) true (is (.int .i64 (1000 * hi))),
   gd (decide ((1000 * lo) ≤ (1000 * long - cal * caliper))) true (is (.bool (decide ((1000 * long - cal * caliper) ≤ (1000 * hi))))),
   is (.bool ((decide ((1000 * lo) ≤ (1000 * long - cal * caliper))) && (decide ((1000 * long - cal * caliper) ≤ (1000 * hi))))),
   is (.bool ((decide ((1000 * lo) ≤ (1000 * long - cal * caliper))) && (decide ((1000 * long - cal * caliper) ≤ (1000 * hi)))))])
  ⟨is_k, is_k, is_k, is_k, is_k, is_k, gd_k (is_k), gd_k (is_k), gd_k (is_k), gd_k (is_k), gd_k (is_k), is_k, is_k, trivial⟩
  ⟨fun f s W h i j k a ha => opv rfl rfl (by simp [go_sem, ha.e 9 k2_9]) rfl,
  fun f s W h i j k a ha => opv rfl rfl (by simp [go_sem, ha.e 7 k2_7]) rfl,
  fun f s W h i j k a ha => opv rfl rfl (by simp [go_sem, ha.e 16 (i 1 rfl), cb b2_0 h 0]) rfl,
  fun f s W h i j k a ha => opv rfl rfl (by simp [go_sem, ha.e 17 (i 2 rfl), IntWalk.i64_in (1000 * lo) (by omega)]) rfl,
  fun f s W h i j k a ha => opv rfl rfl (by simp [go_sem, ha.e 15 (i 0 rfl), ha.e 18 (i 3 rfl)]) rfl,
  fun f s W h i j k a ha => opv rfl rfl (by simp [go_sem, ha.e 19 (i 4 rfl)]) rfl,
  fun f s W h i j k a ha => gdo rfl rfl (ha.says (d := 20) rfl rfl (i 5 rfl)) fun hgd0 => gv (by simp [go_sem, ha.e 9 k2_9]) rfl,
  fun f s W h i j k a ha => gdo rfl rfl (ha.says (d := 20) rfl rfl (i 5 rfl)) fun hgd0 => gv (by simp [go_sem, ha.e 7 k2_7]) rfl,
  fun f s W h i j k a ha => gdo rfl rfl (ha.says (d := 20) rfl rfl (i 5 rfl)) fun hgd0 => gv (by simp [go_sem, ha.e 22 ((i 7 rfl).1 hgd0), cb b2_0 h 1]) rfl,
  fun f s W h i j k a ha => gdo rfl rfl (ha.says (d := 20) rfl rfl (i 5 rfl)) fun hgd0 => gv (by simp [go_sem, ha.e 23 ((i 8 rfl).1 hgd0), IntWalk.i64_in (1000 * hi) (by omega)]) rfl,
  fun f s W h i j k a ha => gdo rfl rfl (ha.says (d := 20) rfl rfl (i 5 rfl)) fun hgd0 => gv (by simp [go_sem, ha.e 21 ((i 6 rfl).1 hgd0), ha.e 24 ((i 9 rfl).1 hgd0)]) rfl,
  fun f s W h i j k a ha => opk (c := decide ((1000 * lo) ≤ (1000 * long - cal * caliper))) rfl rfl (fun hpk => by simp [go_sem, hpk, ha.e 20 (i 5 rfl)]) (fun hpk => by simp [go_sem, hpk, ha.e 20 (i 5 rfl), ha.e 25 ((i 10 rfl).1 hpk)]),
  fun f s W h i j k a ha => opv rfl rfl (by simp [go_sem, ha.e 26 (i 11 rfl)]) rfl, trivial⟩ ?_
 intro f3 s3 W3 hB3 g3 hg3
 have fB3 := hB3.f fB2
 have z3 := hB3.below.size
 have b3_0 := hB3.b b2_0
 refine hK3 _ _ ?_
 have k3_8 := kt hg3 8 (hB3.is 12)
 refine wp_ret ?_
 refine leave_one (N := 27) (v := .bool ((decide ((1000 * lo) ≤ (1000 * long - cal * caliper))) && (decide ((1000 * long - cal * caliper) ≤ (1000 * hi))))) (.inr rfl) Try.results80 rfl k3_8 ?_
 exact ⟨rfl, fB3⟩
end Go.Proofs.Ythnediamopehfaa
namespace Go.Proofs.Ythnediamopehfaa
open Go.RowKit
set_option maxRecDepth 100000 in
set_option maxHeartbeats 400000 in
theorem indexFunc_rows2 (a0 : Option Addr) (n0 c0 : Nat) (p0 : Bool) (a1 : Option Addr) (n1 c1 : Nat) (p1 : Bool) (D1 D2 D3 D4 D5 gq cap : Nat) (w : World) (hg : gq < w.heap.size) (e0 : w.cell? ⟨gq, 0, none⟩ = some (.slice (a0) (n0) (c0))) (e1 : w.cell? ⟨gq, 1, none⟩ = some (.slice (a1) (n1) (c1))) (hp0 : ∀ W, Below w.heap.size w W → Calls Try.prog 81 #[.slice (a0) (n0) (c0), .pointer (some ⟨D1, 0, none⟩), .pointer (some ⟨D2, 0, none⟩), .pointer (some ⟨D3, 0, none⟩), .pointer (some ⟨D4, 0, none⟩), .pointer (some ⟨D5, 0, none⟩)] W fun e W' => e = .returned (.bool p0) ∧ Below W.heap.size W W') (hp1 : ∀ W, Below w.heap.size w W → Calls Try.prog 81 #[.slice (a1) (n1) (c1), .pointer (some ⟨D1, 0, none⟩), .pointer (some ⟨D2, 0, none⟩), .pointer (some ⟨D3, 0, none⟩), .pointer (some ⟨D4, 0, none⟩), .pointer (some ⟨D5, 0, none⟩)] W fun e W' => e = .returned (.bool p1) ∧ Below W.heap.size W W') :
  Calls Try.prog 92 #[.slice (some ⟨gq, 0, none⟩) (2) (cap), .func (.func 81) #[] #[.pointer (some ⟨D1, 0, none⟩), .pointer (some ⟨D2, 0, none⟩), .pointer (some ⟨D3, 0, none⟩), .pointer (some ⟨D4, 0, none⟩), .pointer (some ⟨D5, 0, none⟩)]] w (fun e w' => e = .returned (.int .i64 (if p0 = true then 0 else if p1 = true then 1 else -1)) ∧ Below w.heap.size w w') := by
 refine calls_fr Try.func92 Try.ntmps92 rfl rfl fun g hg => ?_
 have k0 : g 0 = .slice (some ⟨gq, 0, none⟩) (2) (cap) := hg 0
 have k1 : g 1 = .func (.func 81) #[] #[.pointer (some ⟨D1, 0, none⟩), .pointer (some ⟨D2, 0, none⟩), .pointer (some ⟨D3, 0, none⟩), .pointer (some ⟨D4, 0, none⟩), .pointer (some ⟨D5, 0, none⟩)] := hg 1
 clear hg
 have fB0 : Below w.heap.size w w := Below.refl _ _
 refine wp_seq_k fun K1 hK1 => ?_
 refine region_dk 1 [(4, 0)] [[]] (rel [is (.int .i64 0)])
  ⟨is_k, trivial⟩
  ⟨fun f s W b c d h i a => opv rfl rfl (by simp [go_sem]) rfl, trivial⟩ ?_
 intro f1 s1 W1 hB1 g1 hg1
 have fB1 := hB1.f fB0
 have z1 := hB1.below.size
 refine hK1 _ _ ?_
 have k1_0 := kt hg1 0 k0
 have k1_1 := kt hg1 1 k1
 have k1_4 := kt hg1 4 (hB1.is 0)
 refine wp_seq_k fun K2 hK2 => ?_
 refine wp_seq_k fun K3 hK3 => ?_
 refine region_dk 3 [(6, 0), (7, 1), (8, 2)] [[], [0], []] (rel [is (.slice (some ⟨gq, 0, none⟩) (2) (cap)),
   is (.int .i64 2),
   is (.int .i64 0)])
  ⟨is_k, is_k, is_k, trivial⟩
  ⟨fun f s W b c d h i a => opv rfl rfl (by simp [go_sem, a.e 0 k1_0]) rfl,
  fun f s W b c d h i a => opv rfl rfl (by simp [go_sem, a.e 6 (c 0 rfl)]) rfl,
  fun f s W b c d h i a => opv rfl rfl (by simp [go_sem]) rfl, trivial⟩ ?_
 intro f2 s2 W2 hB2 g2 hg2
 have fB2 := hB2.f fB1
 have z2 := hB2.below.size
 refine hK3 _ _ ?_
 have k2_0 := kt hg2 0 k1_0
 have k2_1 := kt hg2 1 k1_1
 have k2_4 := kt hg2 4 k1_4
 have k2_7 := kt hg2 7 (hB2.is 1)
 have k2_8 := kt hg2 8 (hB2.is 2)
 refine wp_block ?_
 refine wp_loop_rounds 3 ?_
 rw [rounds_succ]
 refine wp_seq_k fun K4 hK4 => ?_
 refine region_dk 1 [(9, 0)] [[]] (rel [is (.bool true)])
  ⟨is_k, trivial⟩
  ⟨fun f s W b c d h i a => opv rfl rfl (by simp [go_sem, a.e 8 k2_8, a.e 7 k2_7]) rfl, trivial⟩ ?_
 intro f3 s3 W3 hB3 g3 hg3
 have fB3 := hB3.f fB2
 have z3 := hB3.below.size
 refine hK4 _ _ ?_
 have k3_0 := kt hg3 0 k2_0
 have k3_1 := kt hg3 1 k2_1
 have k3_4 := kt hg3 4 k2_4
 have k3_7 := kt hg3 7 k2_7
 have k3_8 := kt hg3 8 k2_8
 have k3_9 := kt hg3 9 (hB3.is 0)
 refine wp_seq_k fun K5 hK5 => ?_
 refine wp_cond_true ((fr_eval rfl).trans k3_9) ?_
 refine wp_skip ?_
 refine hK5 _ _ ?_
 refine wp_seq_k fun K7 hK7 => ?_
 refine wp_block ?_
 refine wp_seq_k fun K8 hK8 => ?_
 refine region_dk 2 [(10, 0), (5, 1)] [[], [0]] (rel [is (.int .i64 0),
   is (.int .i64 0)])
  ⟨is_k, is_k, trivial⟩
  ⟨fun f s W b c d h i a => opv rfl rfl (by simp [go_sem, a.e 8 k3_8]) rfl,
  fun f s W b c d h i a => opv rfl rfl (by simp [go_sem, a.e 10 (c 0 rfl)]) rfl, trivial⟩ ?_
 intro f4 s4 W4 hB4 g4 hg4
 have fB4 := hB4.f fB3
 have z4 := hB4.below.size
 refine hK8 _ _ ?_
 have k4_0 := kt hg4 0 k3_0
 have k4_1 := kt hg4 1 k3_1
 have k4_4 := kt hg4 4 k3_4
 have k4_7 := kt hg4 7 k3_7
 have k4_8 := kt hg4 8 k3_8
 have k4_9 := kt hg4 9 k3_9
 have k4_5 := kt hg4 5 (hB4.is 1)
 refine wp_seq_k fun K9 hK9 => ?_
 refine region_dk 6 [(11, 0), (12, 1), (13, 2), (14, 3), (15, 4), (16, 5)] [[], [], [], [1, 2], [1, 2, 3], [0, 1, 2, 3, 4]] (rel [is (.func (.func 81) #[] #[.pointer (some ⟨D1, 0, none⟩), .pointer (some ⟨D2, 0, none⟩), .pointer (some ⟨D3, 0, none⟩), .pointer (some ⟨D4, 0, none⟩), .pointer (some ⟨D5, 0, none⟩)]),
   is (.slice (some ⟨gq, 0, none⟩) (2) (cap)),
   is (.int .i64 0),
   is (.pointer (some ⟨gq, 0, none⟩)),
   is (.slice (a0) (n0) (c0)),
   is (.bool p0)])
  ⟨is_k, is_k, is_k, is_k, is_k, is_k, trivial⟩
  ⟨fun f s W b c d h i a => opv rfl rfl (by simp [go_sem, a.e 1 k4_1]) rfl,
  fun f s W b c d h i a => opv rfl rfl (by simp [go_sem, a.e 0 k4_0]) rfl,
  fun f s W b c d h i a => opv rfl rfl (by simp [go_sem, a.e 5 k4_5]) rfl,
  fun f s W b c d h i a => opv rfl rfl (by simp [go_sem, a.e 12 (c 1 rfl), a.e 13 (c 2 rfl)]) rfl,
  fun f s W b c d h i a => by have j := below_trans fB4 b; have u0 : W.cell? ⟨gq, 0, none⟩ = some (.slice (a0) (n0) (c0)) := (j.cell (p := ⟨gq, 0, none⟩) hg).trans e0; exact opv rfl rfl (by simp [go_sem, a.e 14 (c 3 rfl), u0]) rfl,
  fun f s W b c d h i a => by have j := below_trans fB4 b; exact opc rfl rfl (by simp [go_sem, a.e 15 (c 4 rfl), a.e 11 (c 0 rfl)]) (hp0 W j), trivial⟩ ?_
 intro f5 s5 W5 hB5 g5 hg5
 have fB5 := hB5.f fB4
 have z5 := hB5.below.size
 refine hK9 _ _ ?_
 have k5_0 := kt hg5 0 k4_0
 have k5_1 := kt hg5 1 k4_1
 have k5_4 := kt hg5 4 k4_4
 have k5_7 := kt hg5 7 k4_7
 have k5_8 := kt hg5 8 k4_8
 have k5_9 := kt hg5 9 k4_9
 have k5_5 := kt hg5 5 k4_5
 have k5_16 := kt hg5 16 (hB5.is 5)
 refine wp_cond_split (t := p0) ((fr_eval rfl).trans k5_16) (fun hc10 => ?_) (fun hc10 => ?_)
 ·
  have hc10' := hc10; try simp only [ba] at hc10'
  refine wp_seq_k fun K11 hK11 => ?_
  refine region_dk 2 [(17, 0), (4, 1)] [[], [0]] (rel [is (.int .i64 0),
   is (.int .i64 0)])
   ⟨is_k, is_k, trivial⟩
   ⟨fun f s W b c d h i a => opv rfl rfl (by simp [go_sem, a.e 5 k5_5]) rfl,
  fun f s W b c d h i a => opv rfl rfl (by simp [go_sem, a.e 17 (c 0 rfl)]) rfl, trivial⟩ ?_
  intro f6 s6 W6 hB6 g6 hg6
  have fB6 := hB6.f fB5
  have z6 := hB6.below.size
  refine hK11 _ _ ?_
  have k6_0 := kt hg6 0 k5_0
  have k6_1 := kt hg6 1 k5_1
  have k6_7 := kt hg6 7 k5_7
  have k6_8 := kt hg6 8 k5_8
  have k6_9 := kt hg6 9 k5_9
  have k6_5 := kt hg6 5 k5_5
  have k6_16 := kt hg6 16 k5_16
  have k6_4 := kt hg6 4 (hB6.is 1)
  refine wp_ret ?_
  refine inBlock_ret (then_ret (then_ret (inBlock_ret (then_ret ?_))))
  refine leave_one (N := 19) (v := .int .i64 0) (.inr rfl) Try.results92 rfl k6_4 ?_
  exact ⟨by simp [hc10], fB6⟩
 ·
  have hc10' := hc10; try simp only [ba] at hc10'
  refine wp_skip ?_
  refine inBlock_normal ?_
  refine hK7 _ _ ?_
  refine region_dk 2 [(18, 0), (8, 1)] [[], [0]] (rel [is (.int .i64 1),
   is (.int .i64 1)])
   ⟨is_k, is_k, trivial⟩
   ⟨fun f s W b c d h i a => opv rfl rfl (by simp [go_sem, a.e 8 ((h 1 8 rfl rfl).trans k5_8), IntWalk.i64_in (1) (by omega)]) rfl,
  fun f s W b c d h i a => opv rfl rfl (by simp [go_sem, a.e 18 (c 0 rfl)]) rfl, trivial⟩ ?_
  intro f7 s7 W7 hB7 g7 hg7
  have fB7 := hB7.f fB5
  have z7 := hB7.below.size
  refine wpOps_end ?_
  have k7_0 := kt hg7 0 k5_0
  have k7_1 := kt hg7 1 k5_1
  have k7_4 := kt hg7 4 k5_4
  have k7_7 := kt hg7 7 k5_7
  have k7_9 := kt hg7 9 k5_9
  have k7_5 := kt hg7 5 k5_5
  have k7_16 := kt hg7 16 k5_16
  have k7_8 := kt hg7 8 (hB7.is 1)
  refine then_normal ?_
  rw [rounds_succ]
  refine wp_seq_k fun K12 hK12 => ?_
  refine region_dk 1 [(9, 0)] [[]] (rel [is (.bool true)])
   ⟨is_k, trivial⟩
   ⟨fun f s W b c d h i a => opv rfl rfl (by simp [go_sem, a.e 8 k7_8, a.e 7 k7_7]) rfl, trivial⟩ ?_
  intro f8 s8 W8 hB8 g8 hg8
  have fB8 := hB8.f fB7
  have z8 := hB8.below.size
  refine hK12 _ _ ?_
  have k8_0 := kt hg8 0 k7_0
  have k8_1 := kt hg8 1 k7_1
  have k8_4 := kt hg8 4 k7_4
  have k8_7 := kt hg8 7 k7_7
  have k8_5 := kt hg8 5 k7_5
  have k8_16 := kt hg8 16 k7_16
  have k8_8 := kt hg8 8 k7_8
  have k8_9 := kt hg8 9 (hB8.is 0)
  refine wp_seq_k fun K13 hK13 => ?_
  refine wp_cond_true ((fr_eval rfl).trans k8_9) ?_
  refine wp_skip ?_
  refine hK13 _ _ ?_
  refine wp_seq_k fun K15 hK15 => ?_
  refine wp_block ?_
  refine wp_seq_k fun K16 hK16 => ?_
  refine region_dk 2 [(10, 0), (5, 1)] [[], [0]] (rel [is (.int .i64 1),
   is (.int .i64 1)])
   ⟨is_k, is_k, trivial⟩
   ⟨fun f s W b c d h i a => opv rfl rfl (by simp [go_sem, a.e 8 k8_8]) rfl,
  fun f s W b c d h i a => opv rfl rfl (by simp [go_sem, a.e 10 (c 0 rfl)]) rfl, trivial⟩ ?_
  intro f9 s9 W9 hB9 g9 hg9
  have fB9 := hB9.f fB8
  have z9 := hB9.below.size
  refine hK16 _ _ ?_
  have k9_0 := kt hg9 0 k8_0
  have k9_1 := kt hg9 1 k8_1
  have k9_4 := kt hg9 4 k8_4
  have k9_7 := kt hg9 7 k8_7
  have k9_16 := kt hg9 16 k8_16
  have k9_8 := kt hg9 8 k8_8
  have k9_9 := kt hg9 9 k8_9
  have k9_5 := kt hg9 5 (hB9.is 1)
  refine wp_seq_k fun K17 hK17 => ?_
  refine region_dk 6 [(11, 0), (12, 1), (13, 2), (14, 3), (15, 4), (16, 5)] [[], [], [], [1, 2], [1, 2, 3], [0, 1, 2, 3, 4]] (rel [is (.func (.func 81) #[] #[.pointer (some ⟨D1, 0, none⟩), .pointer (some ⟨D2, 0, none⟩), .pointer (some ⟨D3, 0, none⟩), .pointer (some ⟨D4, 0, none⟩), .pointer (some ⟨D5, 0, none⟩)]),
   is (.slice (some ⟨gq, 0, none⟩) (2) (cap)),
   is (.int .i64 1),
   is (.pointer (some ⟨gq, 1, none⟩)),
   is (.slice (a1) (n1) (c1)),
   is (.bool p1)])
   ⟨is_k, is_k, is_k, is_k, is_k, is_k, trivial⟩
   ⟨fun f s W b c d h i a => opv rfl rfl (by simp [go_sem, a.e 1 k9_1]) rfl,
  fun f s W b c d h i a => opv rfl rfl (by simp [go_sem, a.e 0 k9_0]) rfl,
  fun f s W b c d h i a => opv rfl rfl (by simp [go_sem, a.e 5 k9_5]) rfl,
  fun f s W b c d h i a => opv rfl rfl (by simp [go_sem, a.e 12 (c 1 rfl), a.e 13 (c 2 rfl)]) rfl,
  fun f s W b c d h i a => by have j := below_trans fB9 b; have u1 : W.cell? ⟨gq, 1, none⟩ = some (.slice (a1) (n1) (c1)) := (j.cell (p := ⟨gq, 1, none⟩) hg).trans e1; exact opv rfl rfl (by simp [go_sem, a.e 14 (c 3 rfl), u1]) rfl,
  fun f s W b c d h i a => by have j := below_trans fB9 b; exact opc rfl rfl (by simp [go_sem, a.e 15 (c 4 rfl), a.e 11 (c 0 rfl)]) (hp1 W j), trivial⟩ ?_
  intro f10 s10 W10 hB10 g10 hg10
  have fB10 := hB10.f fB9
  have z10 := hB10.below.size
  refine hK17 _ _ ?_
  have k10_0 := kt hg10 0 k9_0
  have k10_1 := kt hg10 1 k9_1
  have k10_4 := kt hg10 4 k9_4
  have k10_7 := kt hg10 7 k9_7
  have k10_8 := kt hg10 8 k9_8
  have k10_9 := kt hg10 9 k9_9
  have k10_5 := kt hg10 5 k9_5
  have k10_16 := kt hg10 16 (hB10.is 5)
  refine wp_cond_split (t := p1) ((fr_eval rfl).trans k10_16) (fun hc18 => ?_) (fun hc18 => ?_)
  ·
   have hc18' := hc18; try simp only [ba] at hc18'
   refine wp_seq_k fun K19 hK19 => ?_
   refine region_dk 2 [(17, 0), (4, 1)] [[], [0]] (rel [is (.int .i64 1),
   is (.int .i64 1)])
    ⟨is_k, is_k, trivial⟩
    ⟨fun f s W b c d h i a => opv rfl rfl (by simp [go_sem, a.e 5 k10_5]) rfl,
  fun f s W b c d h i a => opv rfl rfl (by simp [go_sem, a.e 17 (c 0 rfl)]) rfl, trivial⟩ ?_
   intro f11 s11 W11 hB11 g11 hg11
   have fB11 := hB11.f fB10
   have z11 := hB11.below.size
   refine hK19 _ _ ?_
   have k11_0 := kt hg11 0 k10_0
   have k11_1 := kt hg11 1 k10_1
   have k11_7 := kt hg11 7 k10_7
   have k11_8 := kt hg11 8 k10_8
   have k11_9 := kt hg11 9 k10_9
   have k11_5 := kt hg11 5 k10_5
   have k11_16 := kt hg11 16 k10_16
   have k11_4 := kt hg11 4 (hB11.is 1)
   refine wp_ret ?_
   refine inBlock_ret (then_ret (then_ret (inBlock_ret (then_ret ?_))))
   refine leave_one (N := 19) (v := .int .i64 1) (.inr rfl) Try.results92 rfl k11_4 ?_
   exact ⟨by simp [hc10, hc18], fB11⟩
  ·
   have hc18' := hc18; try simp only [ba] at hc18'
   refine wp_skip ?_
   refine inBlock_normal ?_
   refine hK15 _ _ ?_
   refine region_dk 2 [(18, 0), (8, 1)] [[], [0]] (rel [is (.int .i64 2),
   is (.int .i64 2)])
    ⟨is_k, is_k, trivial⟩
    ⟨fun f s W b c d h i a => opv rfl rfl (by simp [go_sem, a.e 8 ((h 1 8 rfl rfl).trans k10_8), IntWalk.i64_in (2) (by omega)]) rfl,
  fun f s W b c d h i a => opv rfl rfl (by simp [go_sem, a.e 18 (c 0 rfl)]) rfl, trivial⟩ ?_
   intro f12 s12 W12 hB12 g12 hg12
   have fB12 := hB12.f fB10
   have z12 := hB12.below.size
   refine wpOps_end ?_
   have k12_0 := kt hg12 0 k10_0
   have k12_1 := kt hg12 1 k10_1
   have k12_4 := kt hg12 4 k10_4
   have k12_7 := kt hg12 7 k10_7
   have k12_9 := kt hg12 9 k10_9
   have k12_5 := kt hg12 5 k10_5
   have k12_16 := kt hg12 16 k10_16
   have k12_8 := kt hg12 8 (hB12.is 1)
   refine then_normal ?_
   rw [rounds_succ]
   refine wp_seq_k fun K20 hK20 => ?_
   refine region_dk 1 [(9, 0)] [[]] (rel [is (.bool false)])
    ⟨is_k, trivial⟩
    ⟨fun f s W b c d h i a => opv rfl rfl (by simp [go_sem, a.e 8 k12_8, a.e 7 k12_7]) rfl, trivial⟩ ?_
   intro f13 s13 W13 hB13 g13 hg13
   have fB13 := hB13.f fB12
   have z13 := hB13.below.size
   refine hK20 _ _ ?_
   have k13_0 := kt hg13 0 k12_0
   have k13_1 := kt hg13 1 k12_1
   have k13_4 := kt hg13 4 k12_4
   have k13_7 := kt hg13 7 k12_7
   have k13_5 := kt hg13 5 k12_5
   have k13_16 := kt hg13 16 k12_16
   have k13_8 := kt hg13 8 k12_8
   have k13_9 := kt hg13 9 (hB13.is 0)
   refine wp_seq_k fun K21 hK21 => ?_
   refine wp_cond_false ((fr_eval rfl).trans k13_9) ?_
   refine wp_exit ?_
   refine then_exit ?_
   refine then_exit ?_
   refine inBlock_at ?_
   refine hK2 _ _ ?_
   refine wp_seq_k fun K23 hK23 => ?_
   refine region_dk 1 [(4, 0)] [[]] (rel [is (.int .i64 (-1))])
    ⟨is_k, trivial⟩
    ⟨fun f s W b c d h i a => opv rfl rfl (by simp [go_sem]) rfl, trivial⟩ ?_
   intro f14 s14 W14 hB14 g14 hg14
   have fB14 := hB14.f fB13
   have z14 := hB14.below.size
   refine hK23 _ _ ?_
   have k14_4 := kt hg14 4 (hB14.is 0)
   refine wp_ret ?_
   refine leave_one (N := 19) (v := .int .i64 (-1)) (.inr rfl) Try.results92 rfl k14_4 ?_
   exact ⟨by simp [hc10, hc18], fB14⟩
set_option maxRecDepth 100000 in
set_option maxHeartbeats 400000 in
theorem containsFunc_rows2 (a0 : Option Addr) (n0 c0 : Nat) (p0 : Bool) (a1 : Option Addr) (n1 c1 : Nat) (p1 : Bool) (D1 D2 D3 D4 D5 gq cap : Nat) (w : World) (hg : gq < w.heap.size) (e0 : w.cell? ⟨gq, 0, none⟩ = some (.slice (a0) (n0) (c0))) (e1 : w.cell? ⟨gq, 1, none⟩ = some (.slice (a1) (n1) (c1))) (hp0 : ∀ W, Below w.heap.size w W → Calls Try.prog 81 #[.slice (a0) (n0) (c0), .pointer (some ⟨D1, 0, none⟩), .pointer (some ⟨D2, 0, none⟩), .pointer (some ⟨D3, 0, none⟩), .pointer (some ⟨D4, 0, none⟩), .pointer (some ⟨D5, 0, none⟩)] W fun e W' => e = .returned (.bool p0) ∧ Below W.heap.size W W') (hp1 : ∀ W, Below w.heap.size w W → Calls Try.prog 81 #[.slice (a1) (n1) (c1), .pointer (some ⟨D1, 0, none⟩), .pointer (some ⟨D2, 0, none⟩), .pointer (some ⟨D3, 0, none⟩), .pointer (some ⟨D4, 0, none⟩), .pointer (some ⟨D5, 0, none⟩)] W fun e W' => e = .returned (.bool p1) ∧ Below W.heap.size W W') :
  Calls Try.prog 83 #[.slice (some ⟨gq, 0, none⟩) (2) (cap), .func (.func 81) #[] #[.pointer (some ⟨D1, 0, none⟩), .pointer (some ⟨D2, 0, none⟩), .pointer (some ⟨D3, 0, none⟩), .pointer (some ⟨D4, 0, none⟩), .pointer (some ⟨D5, 0, none⟩)]] w (fun e w' => e = .returned (.bool (p0 || p1)) ∧ Below w.heap.size w w') := by
 refine calls_fr Try.func83 Try.ntmps83 rfl rfl fun g hg => ?_
 have k0 : g 0 = .slice (some ⟨gq, 0, none⟩) (2) (cap) := hg 0
 have k1 : g 1 = .func (.func 81) #[] #[.pointer (some ⟨D1, 0, none⟩), .pointer (some ⟨D2, 0, none⟩), .pointer (some ⟨D3, 0, none⟩), .pointer (some ⟨D4, 0, none⟩), .pointer (some ⟨D5, 0, none⟩)] := hg 1
 clear hg
 have fB0 : Below w.heap.size w w := Below.refl _ _
 refine wp_seq_k fun K1 hK1 => ?_
 refine region_dk 1 [(4, 0)] [[]] (rel [is (.bool false)])
  ⟨is_k, trivial⟩
  ⟨fun f s W b c d i j a => opv rfl rfl (by simp [go_sem]) rfl, trivial⟩ ?_
 intro f1 s1 W1 hB1 g1 hg1
 have fB1 := hB1.f fB0
 have z1 := hB1.below.size
 refine hK1 _ _ ?_
 have k1_0 := kt hg1 0 k0
 have k1_1 := kt hg1 1 k1
 have k1_4 := kt hg1 4 (hB1.is 0)
 refine wp_seq_k fun K2 hK2 => ?_
 refine region_dk 5 [(5, 0), (6, 1), (7, 2), (8, 3), (4, 4)] [[], [], [0, 1], [0, 1, 2], [0, 1, 2, 3]] (rel [is (.slice (some ⟨gq, 0, none⟩) (2) (cap)),
   is (.func (.func 81) #[] #[.pointer (some ⟨D1, 0, none⟩), .pointer (some ⟨D2, 0, none⟩), .pointer (some ⟨D3, 0, none⟩), .pointer (some ⟨D4, 0, none⟩), .pointer (some ⟨D5, 0, none⟩)]),
   is (.int .i64 (if p0 = true then 0 else if p1 = true then 1 else -1)),
   is (.bool (decide (0 ≤ (if p0 = true then 0 else if p1 = true then 1 else -1)))),
   is (.bool (decide (0 ≤ (if p0 = true then 0 else if p1 = true then 1 else -1))))])
  ⟨is_k, is_k, is_k, is_k, is_k, trivial⟩
  ⟨fun f s W b c d i j a => opv rfl rfl (by simp [go_sem, a.e 0 k1_0]) rfl,
  fun f s W b c d i j a => opv rfl rfl (by simp [go_sem, a.e 1 k1_1]) rfl,
  fun f s W b c d i j a => by have k := below_trans fB1 b; exact opc (args := #[.slice (some ⟨gq, 0, none⟩) (2) (cap), .func (.func 81) #[] #[.pointer (some ⟨D1, 0, none⟩), .pointer (some ⟨D2, 0, none⟩), .pointer (some ⟨D3, 0, none⟩), .pointer (some ⟨D4, 0, none⟩), .pointer (some ⟨D5, 0, none⟩)]]) rfl rfl (by simp [go_sem, a.e 5 (c 0 rfl), a.e 6 (c 1 rfl)]) (indexFunc_rows2 _ _ _ p0 _ _ _ p1 D1 D2 D3 D4 D5 gq cap W (Nat.lt_of_lt_of_le hg k.size) ((k.cell (p := ⟨gq, 0, none⟩) hg).trans e0) ((k.cell (p := ⟨gq, 1, none⟩) hg).trans e1) (fun W' h => hp0 W' (below_trans k h)) (fun W' h => hp1 W' (below_trans k h))),
  fun f s W b c d i j a => opv rfl rfl (by simp [go_sem, a.e 7 (c 2 rfl)]) rfl,
  fun f s W b c d i j a => opv rfl rfl (by simp [go_sem, a.e 8 (c 3 rfl)]) rfl, trivial⟩ ?_
 intro f2 s2 W2 hB2 g2 hg2
 have fB2 := hB2.f fB1
 have z2 := hB2.below.size
 refine hK2 _ _ ?_
 have k2_4 := kt hg2 4 (hB2.is 4)
 refine wp_ret ?_
 refine leave_one (N := 9) (v := .bool (decide (0 ≤ (if p0 = true then 0 else if p1 = true then 1 else -1)))) (.inr rfl) Try.results83 rfl k2_4 ?_
 exact ⟨by revert hp0 hp1; cases p0 <;> cases p1 <;> simp, fB2⟩
end Go.Proofs.Ythnediamopehfaa
namespace Go.Proofs.Ythnediamopehfaa
open Go.RowKit
set_option maxRecDepth 100000 in
set_option maxHeartbeats 400000 in
theorem closes4_any (l1 h1 l2 h2 l3 h3 l4 h4 l5 h5 : Int) (wo : Bool) (hw : WishIn ⟨(l1, h1), (l2, h2), (l3, h3), (l4, h4), (l5, h5), wo⟩) (x p c : Int) (iN : Nat) (hi : iN < 2) (D1 D2 D3 D4 : Nat) (w : World) (hp1 : 0 ≤ p) (hp2 : p ≤ 3000) (hf1 : 0 ≤ x) (hf2 : x ≤ 3000) (hc1 : 0 ≤ c) (hc2 : c ≤ 100000) (u1 : w.heap[D1]? = some (.cells #[.int .i64 p] 3 (0, 0))) (u2 : w.heap[D2]? = some (.cells #[.int .i64 c] 3 (0, 0))) (u3 : w.heap[D3]? = some (.cells #[.int .i64 l1, .int .i64 h1, .int .i64 l2, .int .i64 h2, .int .i64 l3, .int .i64 h3, .int .i64 l4, .int .i64 h4, .int .i64 l5, .int .i64 h5, .bool wo] 69 (0, 0))) (u4 : w.heap[D4]? = some (.cells #[.int .i64 (iN : Int)] 3 (0, 0))) :
  Calls Try.prog 82 #[.int .i64 x, .pointer (some ⟨D1, 0, none⟩), .pointer (some ⟨D2, 0, none⟩), .pointer (some ⟨D3, 0, none⟩), .pointer (some ⟨D4, 0, none⟩)] w (fun e w' => e = .returned (.bool (isInOf (p - 2 * x) 1 c (targetOf ⟨(l1, h1), (l2, h2), (l3, h3), (l4, h4), (l5, h5), wo⟩ (6 - iN)))) ∧ Below w.heap.size w w') := by
 have tb : -10000 ≤ (targetOf ⟨(l1, h1), (l2, h2), (l3, h3), (l4, h4), (l5, h5), wo⟩ (6 - iN)).1 ∧ (targetOf ⟨(l1, h1), (l2, h2), (l3, h3), (l4, h4), (l5, h5), wo⟩ (6 - iN)).1 ≤ 10000 ∧ -10000 ≤ (targetOf ⟨(l1, h1), (l2, h2), (l3, h3), (l4, h4), (l5, h5), wo⟩ (6 - iN)).2 ∧ (targetOf ⟨(l1, h1), (l2, h2), (l3, h3), (l4, h4), (l5, h5), wo⟩ (6 - iN)).2 ≤ 10000 := by have h := targetOf_in hw (6 - iN); omega
 have TG : ∀ W, Calls Try.prog 71 #[.agg #[.int .i64 l1, .int .i64 h1, .int .i64 l2, .int .i64 h2, .int .i64 l3, .int .i64 h3, .int .i64 l4, .int .i64 h4, .int .i64 l5, .int .i64 h5, .bool wo], .int .i64 (6 - (iN : Int))] W (fun e w' => e = .returned (.agg #[.int .i64 (targetOf ⟨(l1, h1), (l2, h2), (l3, h3), (l4, h4), (l5, h5), wo⟩ (6 - iN)).1, .int .i64 (targetOf ⟨(l1, h1), (l2, h2), (l3, h3), (l4, h4), (l5, h5), wo⟩ (6 - iN)).2]) ∧ Below W.heap.size W w') := fun W => by have h := target_any l1 h1 l2 h2 l3 h3 l4 h4 l5 h5 wo (6 - iN) (by omega) W; rw [show ((6 - iN : Nat) : Int) = 6 - (iN : Int) by omega] at h; exact h
 refine calls_fr Try.func82 Try.ntmps82 rfl rfl fun g hg => ?_
 have k0 : g 0 = .int .i64 x := hg 0
 have k1 : g 1 = .pointer (some ⟨D1, 0, none⟩) := hg 1
 have k2 : g 2 = .pointer (some ⟨D2, 0, none⟩) := hg 2
 have k3 : g 3 = .pointer (some ⟨D3, 0, none⟩) := hg 3
 have k4 : g 4 = .pointer (some ⟨D4, 0, none⟩) := hg 4
 clear hg
 have fB0 : Below w.heap.size w w := Below.refl _ _
 have lt_D1 := lt_of_blk u1
 have lt_D2 := lt_of_blk u2
 have lt_D3 := lt_of_blk u3
 have lt_D4 := lt_of_blk u4
 refine wp_seq_k fun K1 hK1 => ?_
 refine region_dk 1 [(6, 0)] [[]] (rel [is (.bool false)])
  ⟨is_k, trivial⟩
  ⟨fun f s W d i j k l a => opv rfl rfl (by simp [go_sem]) rfl, trivial⟩ ?_
 intro f1 s1 W1 hB1 g1 hg1
 have fB1 := hB1.f fB0
 have z1 := hB1.below.size
 have b1_0 := hB1.b u1
 have b1_1 := hB1.b u2
 have b1_2 := hB1.b u3
 have b1_3 := hB1.b u4
 refine hK1 _ _ ?_
 have k1_0 := kt hg1 0 k0
 have k1_1 := kt hg1 1 k1
 have k1_2 := kt hg1 2 k2
 have k1_3 := kt hg1 3 k3
 have k1_4 := kt hg1 4 k4
 have k1_6 := kt hg1 6 (hB1.is 0)
 refine wp_seq_k fun K2 hK2 => ?_
 refine region_dk 11 [(7, 0), (8, 1), (9, 2), (10, 3), (11, 4), (12, 5), (13, 6), (14, 7), (15, 8), (16, 9), (6, 10)] [[], [], [1], [0, 1, 2], [], [], [], [6], [5, 6, 7], [0, 1, 2, 3, 4, 5, 6, 7, 8], [0, 1, 2, 3, 4, 5, 6, 7, 8, 9]] (rel [is (.int .i64 p),
   is (.int .i64 x),
   is (.int .i64 (2 * x)),
   is (.int .i64 (p - (2 * x))),
   is (.int .i64 c),
   is (.agg #[.int .i64 l1, .int .i64 h1, .int .i64 l2, .int .i64 h2, .int .i64 l3, .int .i64 h3, .int .i64 l4, .int .i64 h4, .int .i64 l5, .int .i64 h5, .bool wo]),
   is (.int .i64 ((iN : Int))),
   is (.int .i64 (6 - (iN : Int))),
   is (.agg #[.int .i64 ((targetOf ⟨(l1, h1), (l2, h2), (l3, h3), (l4, h4), (l5, h5), wo⟩ (6 - iN)).1), .int .i64 ((targetOf ⟨(l1, h1), (l2, h2), (l3, h3), (l4, h4), (l5, h5), wo⟩ (6 - iN)).2)]),
   is (.bool (isInOf (p - (2 * x)) 1 c ((targetOf ⟨(l1, h1), (l2, h2), (l3, h3), (l4, h4), (l5, h5), wo⟩ (6 - iN))))),
   is (.bool (isInOf (p - (2 * x)) 1 c ((targetOf ⟨(l1, h1), (l2, h2), (l3, h3), (l4, h4), (l5, h5), wo⟩ (6 - iN)))))])
  ⟨is_k, is_k, is_k, is_k, is_k, is_k, is_k, is_k, is_k, is_k, is_k, trivial⟩
  ⟨fun f s W d i j k l a => opv rfl rfl (by simp [go_sem, a.e 1 k1_1, cb b1_0 d 0]) rfl,
  fun f s W d i j k l a => opv rfl rfl (by simp [go_sem, a.e 0 k1_0]) rfl,
  fun f s W d i j k l a => opv rfl rfl (by simp [go_sem, a.e 8 (i 1 rfl), IntWalk.i64_in (2 * x) (by omega)]) rfl,
  fun f s W d i j k l a => opv rfl rfl (by simp [go_sem, a.e 7 (i 0 rfl), a.e 9 (i 2 rfl), IntWalk.i64_in (p - (2 * x)) (by omega)]) rfl,
  fun f s W d i j k l a => opv rfl rfl (by simp [go_sem, a.e 2 k1_2, cb b1_1 d 0]) rfl,
  fun f s W d i j k l a => opv rfl rfl (by simp [go_sem, a.e 3 k1_3, cb b1_2 d 0, cb b1_2 d 1, cb b1_2 d 2, cb b1_2 d 3, cb b1_2 d 4, cb b1_2 d 5, cb b1_2 d 6, cb b1_2 d 7, cb b1_2 d 8, cb b1_2 d 9, cb b1_2 d 10]) rfl,
  fun f s W d i j k l a => opv rfl rfl (by simp [go_sem, a.e 4 k1_4, cb b1_3 d 0]) rfl,
  fun f s W d i j k l a => opv rfl rfl (by simp [go_sem, a.e 13 (i 6 rfl), IntWalk.i64_in (6 - (iN : Int)) (by omega)]) rfl,
  fun f s W d i j k l a => opc rfl rfl (by simp [go_sem, a.e 12 (i 5 rfl), a.e 14 (i 7 rfl)]) (TG W),
  fun f s W d i j k l a => opc rfl rfl (by simp [go_sem, a.e 10 (i 3 rfl), a.e 11 (i 4 rfl), a.e 15 (i 8 rfl)]) (isIn_any (p - (2 * x)) 1 c ((targetOf ⟨(l1, h1), (l2, h2), (l3, h3), (l4, h4), (l5, h5), wo⟩ (6 - iN)).1) ((targetOf ⟨(l1, h1), (l2, h2), (l3, h3), (l4, h4), (l5, h5), wo⟩ (6 - iN)).2) W (by omega) (by omega) (by omega) (by omega) hc1 hc2 tb.1 tb.2.1 tb.2.2.1 tb.2.2.2),
  fun f s W d i j k l a => opv rfl rfl (by simp [go_sem, a.e 16 (i 9 rfl)]) rfl, trivial⟩ ?_
 intro f2 s2 W2 hB2 g2 hg2
 have fB2 := hB2.f fB1
 have z2 := hB2.below.size
 have b2_0 := hB2.b b1_0
 have b2_1 := hB2.b b1_1
 have b2_2 := hB2.b b1_2
 have b2_3 := hB2.b b1_3
 refine hK2 _ _ ?_
 have k2_6 := kt hg2 6 (hB2.is 10)
 refine wp_ret ?_
 refine leave_one (N := 17) (v := .bool (isInOf (p - (2 * x)) 1 c ((targetOf ⟨(l1, h1), (l2, h2), (l3, h3), (l4, h4), (l5, h5), wo⟩ (6 - iN))))) (.inr rfl) Try.results82 rfl k2_6 ?_
 exact ⟨rfl, fB2⟩
set_option maxRecDepth 100000 in
set_option maxHeartbeats 400000 in
theorem closes2_any (l1 h1 l2 h2 l3 h3 l4 h4 l5 h5 : Int) (wo : Bool) (hw : WishIn ⟨(l1, h1), (l2, h2), (l3, h3), (l4, h4), (l5, h5), wo⟩) (x c tab hh slot off : Int) (sp st sb : Value) (op : Bool) (D1 D2 D3 : Nat) (w : World) (hp1 : 0 ≤ x) (hp2 : x ≤ 3000) (hc1 : 0 ≤ c) (hc2 : c ≤ 100000) (u1 : w.heap[D1]? = some (.cells #[.int .i64 tab, sp, .int .i64 hh, st, sb, .int .i64 slot, .bool op, .int .i64 off] 104 (0, 0))) (u2 : w.heap[D2]? = some (.cells #[.int .i64 c] 3 (0, 0))) (u3 : w.heap[D3]? = some (.cells #[.int .i64 l1, .int .i64 h1, .int .i64 l2, .int .i64 h2, .int .i64 l3, .int .i64 h3, .int .i64 l4, .int .i64 h4, .int .i64 l5, .int .i64 h5, .bool wo] 69 (0, 0))) :
  Calls Try.prog 84 #[.int .i64 x, .pointer (some ⟨D1, 0, none⟩), .pointer (some ⟨D2, 0, none⟩), .pointer (some ⟨D3, 0, none⟩)] w (fun e w' => e = .returned (.bool (isInOf x (foldsOf op) c (l3, h3))) ∧ Below w.heap.size w w') := by
 have tb : -10000 ≤ l3 ∧ l3 ≤ 10000 ∧ -10000 ≤ h3 ∧ h3 ≤ 10000 := by have h := hw (l3, h3) (by simp); simp only at h; omega
 have hf : 0 ≤ foldsOf op ∧ foldsOf op ≤ 10 := by unfold foldsOf; split <;> omega
 refine calls_fr Try.func84 Try.ntmps84 rfl rfl fun g hg => ?_
 have k0 : g 0 = .int .i64 x := hg 0
 have k1 : g 1 = .pointer (some ⟨D1, 0, none⟩) := hg 1
 have k2 : g 2 = .pointer (some ⟨D2, 0, none⟩) := hg 2
 have k3 : g 3 = .pointer (some ⟨D3, 0, none⟩) := hg 3
 clear hg
 have fB0 : Below w.heap.size w w := Below.refl _ _
 have lt_D1 := lt_of_blk u1
 have lt_D2 := lt_of_blk u2
 have lt_D3 := lt_of_blk u3
 refine wp_seq_k fun K1 hK1 => ?_
 refine region_dk 1 [(5, 0)] [[]] (rel [is (.bool false)])
  ⟨is_k, trivial⟩
  ⟨fun f s W d i j k l a => opv rfl rfl (by simp [go_sem]) rfl, trivial⟩ ?_
 intro f1 s1 W1 hB1 g1 hg1
 have fB1 := hB1.f fB0
 have z1 := hB1.below.size
 have b1_0 := hB1.b u1
 have b1_1 := hB1.b u2
 have b1_2 := hB1.b u3
 refine hK1 _ _ ?_
 have k1_0 := kt hg1 0 k0
 have k1_1 := kt hg1 1 k1
 have k1_2 := kt hg1 2 k2
 have k1_3 := kt hg1 3 k3
 have k1_5 := kt hg1 5 (hB1.is 0)
 refine wp_seq_k fun K2 hK2 => ?_
 refine region_dk 9 [(6, 0), (7, 1), (8, 2), (9, 3), (10, 4), (11, 5), (12, 6), (13, 7), (5, 8)] [[], [], [1], [1, 2], [], [], [5], [0, 1, 2, 3, 4, 5, 6], [0, 1, 2, 3, 4, 5, 6, 7]] (rel [is (.int .i64 x),
   is (.pointer (some ⟨D1, 0, none⟩)),
   is (.agg #[.int .i64 tab, sp, .int .i64 hh, st, sb, .int .i64 slot, .bool op]),
   is (.int .i64 (foldsOf op)),
   is (.int .i64 c),
   is (.pointer (some ⟨D3, 4, none⟩)),
   is (.agg #[.int .i64 l3, .int .i64 h3]),
   is (.bool (isInOf x (foldsOf op) c (l3, h3))),
   is (.bool (isInOf x (foldsOf op) c (l3, h3)))])
  ⟨is_k, is_k, is_k, is_k, is_k, is_k, is_k, is_k, is_k, trivial⟩
  ⟨fun f s W d i j k l a => opv rfl rfl (by simp [go_sem, a.e 0 k1_0]) rfl,
  fun f s W d i j k l a => opv rfl rfl (by simp [go_sem, a.e 1 k1_1]) rfl,
  fun f s W d i j k l a => opv rfl rfl (by simp [go_sem, a.e 7 (i 1 rfl), cb b1_0 d 0, cb b1_0 d 1, cb b1_0 d 2, cb b1_0 d 3, cb b1_0 d 4, cb b1_0 d 5, cb b1_0 d 6]) rfl,
  fun f s W d i j k l a => opc (args := #[.agg #[.int .i64 tab, sp, .int .i64 hh, st, sb, .int .i64 slot, .bool op]]) rfl rfl (by simp [go_sem, a.e 8 (i 2 rfl)]) (folds_any _ _ _ _ _ _ op W),
  fun f s W d i j k l a => opv rfl rfl (by simp [go_sem, a.e 2 k1_2, cb b1_1 d 0]) rfl,
  fun f s W d i j k l a => opv rfl rfl (by simp [go_sem, a.e 3 k1_3]) rfl,
  fun f s W d i j k l a => opv rfl rfl (by simp [go_sem, a.e 11 (i 5 rfl), cb b1_2 d 4, cb b1_2 d 5]) rfl,
  fun f s W d i j k l a => opc rfl rfl (by simp [go_sem, a.e 6 (i 0 rfl), a.e 9 (i 3 rfl), a.e 10 (i 4 rfl), a.e 12 (i 6 rfl)]) (isIn_any x (foldsOf op) c l3 h3 W (by omega) (by omega) hf.1 hf.2 hc1 hc2 tb.1 tb.2.1 tb.2.2.1 tb.2.2.2),
  fun f s W d i j k l a => opv rfl rfl (by simp [go_sem, a.e 13 (i 7 rfl)]) rfl, trivial⟩ ?_
 intro f2 s2 W2 hB2 g2 hg2
 have fB2 := hB2.f fB1
 have z2 := hB2.below.size
 have b2_0 := hB2.b b1_0
 have b2_1 := hB2.b b1_1
 have b2_2 := hB2.b b1_2
 refine hK2 _ _ ?_
 have k2_5 := kt hg2 5 (hB2.is 8)
 refine wp_ret ?_
 refine leave_one (N := 14) (v := .bool (isInOf x (foldsOf op) c (l3, h3))) (.inr rfl) Try.results84 rfl k2_5 ?_
 exact ⟨rfl, fB2⟩
end Go.Proofs.Ythnediamopehfaa
namespace Go.Proofs.Ythnediamopehfaa
open Go.RowKit Go.Shelf
attribute [local go_sem] Oper.semAt_some
/-- The whole numbers from lo to hi. -/
def ints (lo hi : Int) : List Int := (List.range (hi + 1 - lo).toNat).map fun k : Nat => lo + k
theorem ints_step (lo hi : Int) (k : Nat) (h : lo + k ≤ hi) : ints lo hi = (List.range k).map (fun j : Nat => lo + j) ++ (lo + k) :: (List.range' (k + 1) ((hi + 1 - lo).toNat - (k + 1))).map fun j : Nat => lo + j := by
  unfold ints
  have e : (hi + 1 - lo).toNat = k + (1 + ((hi + 1 - lo).toNat - (k + 1))) := by omega
  rw [List.range_eq_range', e, ← List.range'_append_1, List.map_append, List.range_eq_range']
  congr 1
  rw [Nat.zero_add, Nat.add_comm 1, List.range'_succ, List.map_cons]
  congr 3
  omega
abbrev Rg (lo hi : Int) := { x : Int // lo ≤ x ∧ x ≤ hi }
def vals {lo hi : Int} (l : List (Rg lo hi)) : List Int := l.map (·.1)
theorem vals_snoc {lo hi : Int} (l : List (Rg lo hi)) (x : Rg lo hi) : vals (l ++ [x]) = vals l ++ [x.1] := by simp [vals]
theorem vals_length {lo hi : Int} (l : List (Rg lo hi)) : (vals l).length = l.length := by simp [vals]
set_option maxHeartbeats 4000000 in
theorem around1_in (F : Fence) (n : Nat) (hF : F.fn 104) (hro : F.round = none) (hn : 1 ≤ n) (l n₀ B1 B2 B3 : Nat) (least m off lo hi : Int) (hlo : lo = max least (m - off)) (hhi : hi = min 3000 (m + off)) (r1 : -100000 ≤ m) (r2 : m ≤ 100000) (r3 : -100000 ≤ off) (r4 : off ≤ 100000) (r5 : 0 ≤ least) (r6 : least ≤ 100000)
    (J Jx : List (Rg lo hi) → World → Prop)
    (hY : ∀ pre (x : Rg lo hi) W, J pre W → pre.length < 300000 → YieldAt F (n - 1) Try.prog l #[.int .i64 x.1] W fun e W' =>
      (e = .returned (.bool true) ∧ J (pre ++ [x]) W' ∧ Below n₀ W W') ∨ (e = .returned (.bool false) ∧ Jx (pre ++ [x]) W'))
    (W : World) (l1 : B1 < n₀) (l2 : B2 < n₀) (l3 : B3 < n₀) (c1 : W.cell? ⟨B1, 0, none⟩ = some (.int .i64 least)) (c2 : W.cell? ⟨B2, 0, none⟩ = some (.int .i64 m)) (c3 : W.cell? ⟨B3, 7, none⟩ = some (.int .i64 off)) (h0 : J [] W) :
    CallsIn F n Try.prog 104 #[.func (.yield l) #[] #[], .pointer (some ⟨B1, 0, none⟩), .pointer (some ⟨B2, 0, none⟩), .pointer (some ⟨B3, 0, none⟩)] W fun e W' => (∃ v, e = .returned v) ∧
      ((∃ ys : List (Rg lo hi), vals ys = ints lo hi ∧ J ys W') ∨ (∃ pre : List (Rg lo hi), vals pre <+: ints lo hi ∧ Jx pre W')) := by
  have HLO := Lib.hid hlo
  have HHI := Lib.hid hhi
  refine callsIn_of_wp Try.func104 rfl hF ?_ hro
  simp only [Try.ntmps104, List.size_toArray, List.length_cons, List.length_nil, Nat.reduceAdd, Nat.reduceSub, Array.replicate_succ, Array.replicate_zero, List.push_toArray, List.append_toArray, List.nil_append, List.cons_append]
  clear hlo hhi
  gi_wp2
  gi_loopw [5] (fun p wr => ∃ (pre : List (Rg lo hi)) (k : Nat), p = .int .i64 (lo + k) ∧ vals pre = (List.range k).map (fun j : Nat => lo + j) ∧ J pre wr ∧ Below n₀ W wr ∧ (k = 0 ∨ lo + k ≤ hi + 1))
    (fun p _ => (hi + 1 - intOf p).toNat)
  case atStart =>
    exact ⟨[], 0, by rw [HLO.out]; simp, rfl, h0, Below.refl _ _, .inl rfl⟩
  case round =>
    obtain ⟨pre, k, rfl, hpre, hJ, hb, hk⟩ := hrel
    have d1 : wr.cell? ⟨B1, 0, none⟩ = some (.int .i64 least) := (hb.cell (p := ⟨B1, 0, none⟩) l1).trans c1
    have d2 : wr.cell? ⟨B2, 0, none⟩ = some (.int .i64 m) := (hb.cell (p := ⟨B2, 0, none⟩) l2).trans c2
    have d3 : wr.cell? ⟨B3, 7, none⟩ = some (.int .i64 off) := (hb.cell (p := ⟨B3, 7, none⟩) l3).trans c3
    have hh : IntKind.i64.wrap (m + off) = m + off := IntWalk.i64_in _ (by omega)
    have hB : lo + k ≤ 400000 := by have := HLO.out; have := HHI.out; omega
    have hlow : 0 ≤ lo := by have := HLO.out; omega
    have hhi3 : hi ≤ 3000 := by have := HHI.out; omega
    by_cases hlt : lo + k ≤ hi
    · have hle : lo + k ≤ min 3000 (m + off) := by rw [← HHI.out]; exact hlt
      obtain ⟨X, hX⟩ : ∃ X : Rg lo hi, X.1 = lo + k := ⟨⟨lo + k, by omega, hlt⟩, rfl⟩
      obtain ⟨fn, tmps, assign, body, hy, hR⟩ := hY pre X wr hJ (by have := congrArg List.length hpre; rw [vals_length] at this; simp at this; omega)
      rw [hX] at hy
      have HX := Lib.hid hX
      clear hX
      have Hpre := Lib.hid hpre
      have HB := Lib.hid hb
      clear hpre hb hlt hk
      gi_wp2
      refine hR.mono ?_
      rintro e W3 (⟨rfl, hJ3, hk3⟩ | ⟨rfl, hJx3⟩)
      · gi_wp2
        go_roundw
        case rel => exact ⟨pre ++ [X], k + 1, by simp; omega, by rw [vals_snoc, Hpre.out, List.range_succ, List.map_append, HX.out]; rfl, hJ3, HB.out.trans hk3, .inr (by have := HHI.out; omega)⟩
        case measure => simp [intOf]; have := HHI.out; omega
      · gi_wp2
        refine bodyPost_ret (results_none rfl _ _ _) rfl ?_
        exact ⟨⟨_, rfl⟩, .inr ⟨_, ⟨_, by rw [ints_step lo hi k (by have := HHI.out; omega), vals_snoc, Hpre.out, HX.out, List.append_assoc]; rfl⟩, hJx3⟩⟩
    · have hle : min 3000 (m + off) < lo + k := by rw [← HHI.out]; omega
      have Hpre := Lib.hid hpre
      clear hpre hb
      gi_wp2
      go_end0
      exact ⟨⟨_, rfl⟩, .inl ⟨pre, by rw [Hpre.out]; unfold ints; congr 2; omega, hJ⟩⟩
end Go.Proofs.Ythnediamopehfaa
