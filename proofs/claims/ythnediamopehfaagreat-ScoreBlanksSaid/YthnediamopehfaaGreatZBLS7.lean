/- Part of the proof: what the claim leans on. -/
import Derived.Test.YthnediamopehfaaGreatZBLL6
set_option linter.unusedSimpArgs false
set_option linter.unusedVariables false
namespace Go.Proofs.YthnediamopehfaaGreat
open Go.RowKit
def wishRB (w : Wi) : Bool := ((((!(spanR w.length.1 w.length.2 (0) (3000))) || (!(spanR w.width.1 w.width.2 (0) (3000)))) || (!(spanR w.height.1 w.height.2 (0) (3000)))) || (!(spanR w.outer.1 w.outer.2 (-3000) (3000)))) || (!(spanR w.inner.1 w.inner.2 (-3000) (3000)))
def wishR (w : Wi) : Int := if wishRB w = true then 2 else 0
set_option maxRecDepth 100000 in
set_option maxHeartbeats 2000000 in
theorem wishR_any (l1 h1' l2 h2' l3 h3' l4 h4' l5 h5' : Int) (wo : Bool) (w : World) :
  Calls Tryz.prog 24 #[.agg #[.int .i64 l1, .int .i64 (h1'), .int .i64 l2, .int .i64 (h2'), .int .i64 l3, .int .i64 (h3'), .int .i64 l4, .int .i64 (h4'), .int .i64 l5, .int .i64 (h5'), .bool wo]] w (fun e w' => e = .returned (.int .i64 (wishR ⟨(l1, h1'), (l2, h2'), (l3, h3'), (l4, h4'), (l5, h5'), wo⟩)) ∧ Below w.heap.size w w') := by
 refine calls_fr Tryz.func24 Tryz.ntmps24 rfl rfl fun g hg => ?_
 have k0 : g 0 = .agg #[.int .i64 l1, .int .i64 (h1'), .int .i64 l2, .int .i64 (h2'), .int .i64 l3, .int .i64 (h3'), .int .i64 l4, .int .i64 (h4'), .int .i64 l5, .int .i64 (h5'), .bool wo] := hg 0
 clear hg
 have fB0 : Below w.heap.size w w := Below.refl _ _
 refine wp_seq_k fun K1 hK1 => ?_
 refine region_dk 2 [(1, 0), (2, 1)] [[], []] (rel [bx 0 #[.int .i64 l1, .int .i64 (h1'), .int .i64 l2, .int .i64 (h2'), .int .i64 l3, .int .i64 (h3'), .int .i64 l4, .int .i64 (h4'), .int .i64 l5, .int .i64 (h5'), .bool wo] 43,
   is (.int .i64 0)])
  ⟨bx_k, is_k, trivial⟩
  ⟨fun f s W h i j k l a => opb rfl rfl (by simp [go_sem, a.e 0 k0]),
  fun f s W h i j k l a => opv rfl rfl (by simp [go_sem]) rfl, trivial⟩ ?_
 intro f1 s1 W1 hB1 g1 hg1
 have fB1 := hB1.f fB0
 have z1 := hB1.below.size
 obtain ⟨r1_0, br1_0⟩ := hB1.is 0
 have lr1_0 := hB1.lr 0 br1_0
 refine hK1 _ _ ?_
 have k1_1 := kt hg1 1 r1_0
 have k1_2 := kt hg1 2 (hB1.is 1)
 refine wp_seq_k fun K2 hK2 => ?_
 refine wp_seq_k fun K3 hK3 => ?_
 refine region_dk 28 [(3, 0), (4, 1), (5, 2), (6, 3), (7, 4), (8, 5), (9, 6), (10, 7), (11, 8), (12, 9), (13, 10), (14, 11), (15, 12), (16, 13), (17, 14), (18, 15), (19, 16), (20, 17), (21, 18), (22, 19), (23, 20), (24, 21), (25, 22), (26, 23), (27, 24), (28, 25), (29, 26), (30, 27)] [[], [0], [0, 1], [0, 1, 2], [0, 1, 2, 3], [0, 1, 2, 3, 4], [0, 1, 2, 3, 4, 5], [0, 1, 2, 3, 4, 5, 6], [0, 1, 2, 3, 4, 5, 6, 7], [0, 1, 2, 3, 4, 5, 6, 7, 8], [0, 1, 2, 3, 4, 5, 6, 7, 8, 9], [0, 1, 2, 3, 4, 5, 6, 7, 8, 9, 10], [0, 1, 2, 3, 4, 5, 6, 7, 8, 9, 10, 11], [0, 1, 2, 3, 4, 5, 6, 7, 8, 9, 10, 11, 12], [0, 1, 2, 3, 4, 5, 6, 7, 8, 9, 10, 11, 12, 13], [0, 1, 2, 3, 4, 5, 6, 7, 8, 9, 10, 11, 12, 13, 14], [0, 1, 2, 3, 4, 5, 6, 7, 8, 9, 10, 11, 12, 13, 14, 15], [0, 1, 2, 3, 4, 5, 6, 7, 8, 9, 10, 11, 12, 13, 14, 15, 16], [0, 1, 2, 3, 4, 5, 6, 7, 8, 9, 10, 11, 12, 13, 14, 15, 16, 17], [0, 1, 2, 3, 4, 5, 6, 7, 8, 9, 10, 11, 12, 13, 14, 15, 16, 17, 18], [0, 1, 2, 3, 4, 5, 6, 7, 8, 9, 10, 11, 12, 13, 14, 15, 16, 17, 18, 19], [0, 1, 2, 3, 4, 5, 6, 7, 8, 9, 10, 11, 12, 13, 14, 15, 16, 17, 18, 19, 20], [0, 1, 2, 3, 4, 5, 6, 7, 8, 9, 10, 11, 12, 13, 14, 15, 16, 17, 18, 19, 20, 21], [0, 1, 2, 3, 4, 5, 6, 7, 8, 9, 10, 11, 12, 13, 14, 15, 16, 17, 18, 19, 20, 21, 22], [0, 1, 2, 3, 4, 5, 6, 7, 8, 9, 10, 11, 12, 13, 14, 15, 16, 17, 18, 19, 20, 21, 22, 23], [0, 1, 2, 3, 4, 5, 6, 7, 8, 9, 10, 11, 12, 13, 14, 15, 16, 17, 18, 19, 20, 21, 22, 23, 24], [0, 1, 2, 3, 4, 5, 6, 7, 8, 9, 10, 11, 12, 13, 14, 15, 16, 17, 18, 19, 20, 21, 22, 23, 24, 25], [0, 1, 2, 3, 4, 5, 6, 7, 8, 9, 10, 11, 12, 13, 14, 15, 16, 17, 18, 19, 20, 21, 22, 23, 24, 25, 26]] (rel [is (.pointer (some ⟨(s1 0), 0, none⟩)),
   is (.agg #[.int .i64 l1, .int .i64 (h1')]),
   is (.bool (spanR l1 h1' (0) (3000))),
   is (.bool (!(spanR l1 h1' (0) (3000)))),
   is (.bool (!(spanR l1 h1' (0) (3000)))),
   gd (!(spanR l1 h1' (0) (3000))) false (is (.pointer (some ⟨(s1 0), 2, none⟩))),
   gd (!(spanR l1 h1' (0) (3000))) false (is (.agg #[.int .i64 l2, .int .i64 (h2')])),
   gd (!(spanR l1 h1' (0) (3000))) false (is (.bool (spanR l2 h2' (0) (3000)))),
   gd (!(spanR l1 h1' (0) (3000))) false (is (.bool (!(spanR l2 h2' (0) (3000))))),
   is (.bool ((!(spanR l1 h1' (0) (3000))) || (!(spanR l2 h2' (0) (3000))))),
   is (.bool ((!(spanR l1 h1' (0) (3000))) || (!(spanR l2 h2' (0) (3000))))),
   gd ((!(spanR l1 h1' (0) (3000))) || (!(spanR l2 h2' (0) (3000)))) false (is (.pointer (some ⟨(s1 0), 4, none⟩))),
   gd ((!(spanR l1 h1' (0) (3000))) || (!(spanR l2 h2' (0) (3000)))) false (is (.agg #[.int .i64 l3, .int .i64 (h3')])),
   gd ((!(spanR l1 h1' (0) (3000))) || (!(spanR l2 h2' (0) (3000)))) false (is (.bool (spanR l3 h3' (0) (3000)))),
   gd ((!(spanR l1 h1' (0) (3000))) || (!(spanR l2 h2' (0) (3000)))) false (is (.bool (!(spanR l3 h3' (0) (3000))))),
   is (.bool (((!(spanR l1 h1' (0) (3000))) || (!(spanR l2 h2' (0) (3000)))) || (!(spanR l3 h3' (0) (3000))))),
   is (.bool (((!(spanR l1 h1' (0) (3000))) || (!(spanR l2 h2' (0) (3000)))) || (!(spanR l3 h3' (0) (3000))))),
   gd (((!(spanR l1 h1' (0) (3000))) || (!(spanR l2 h2' (0) (3000)))) || (!(spanR l3 h3' (0) (3000)))) false (is (.pointer (some ⟨(s1 0), 6, none⟩))),
   gd (((!(spanR l1 h1' (0) (3000))) || (!(spanR l2 h2' (0) (3000)))) || (!(spanR l3 h3' (0) (3000)))) false (is (.agg #[.int .i64 l4, .int .i64 (h4')])),
   gd (((!(spanR l1 h1' (0) (3000))) || (!(spanR l2 h2' (0) (3000)))) || (!(spanR l3 h3' (0) (3000)))) false (is (.bool (spanR l4 h4' (-3000) (3000)))),
   gd (((!(spanR l1 h1' (0) (3000))) || (!(spanR l2 h2' (0) (3000)))) || (!(spanR l3 h3' (0) (3000)))) false (is (.bool (!(spanR l4 h4' (-3000) (3000))))),
   is (.bool ((((!(spanR l1 h1' (0) (3000))) || (!(spanR l2 h2' (0) (3000)))) || (!(spanR l3 h3' (0) (3000)))) || (!(spanR l4 h4' (-3000) (3000))))),
   is (.bool ((((!(spanR l1 h1' (0) (3000))) || (!(spanR l2 h2' (0) (3000)))) || (!(spanR l3 h3' (0) (3000)))) || (!(spanR l4 h4' (-3000) (3000))))),
   gd ((((!(spanR l1 h1' (0) (3000))) || (!(spanR l2 h2' (0) (3000)))) || (!(spanR l3 h3' (0) (3000)))) || (!(spanR l4 h4' (-3000) (3000)))) false (is (.pointer (some ⟨(s1 0), 8, none⟩))),
   gd ((((!(spanR l1 h1' (0) (3000))) || (!(spanR l2 h2' (0) (3000)))) || (!(spanR l3 h3' (0) (3000)))) || (!(spanR l4 h4' (-3000) (3000)))) false (is (.agg #[.int .i64 l5, .int .i64 (h5')])),
   gd ((((!(spanR l1 h1' (0) (3000))) || (!(spanR l2 h2' (0) (3000)))) || (!(spanR l3 h3' (0) (3000)))) || (!(spanR l4 h4' (-3000) (3000)))) false (is (.bool (spanR l5 h5' (-3000) (3000)))),
   gd ((((!(spanR l1 h1' (0) (3000))) || (!(spanR l2 h2' (0) (3000)))) || (!(spanR l3 h3' (0) (3000)))) || (!(spanR l4 h4' (-3000) (3000)))) false (is (.bool (!(spanR l5 h5' (-3000) (3000))))),
   is (.bool (((((!(spanR l1 h1' (0) (3000))) || (!(spanR l2 h2' (0) (3000)))) || (!(spanR l3 h3' (0) (3000)))) || (!(spanR l4 h4' (-3000) (3000)))) || (!(spanR l5 h5' (-3000) (3000)))))])
  ⟨is_k, is_k, is_k, is_k, is_k, gd_k (is_k), gd_k (is_k), gd_k (is_k), gd_k (is_k), is_k, is_k, gd_k (is_k), gd_k (is_k), gd_k (is_k), gd_k (is_k), is_k, is_k, gd_k (is_k), gd_k (is_k), gd_k (is_k), gd_k (is_k), is_k, is_k, gd_k (is_k), gd_k (is_k), gd_k (is_k), gd_k (is_k), is_k, trivial⟩
  ⟨fun f s W h i j k l a => opv rfl rfl (by simp [go_sem, a.e 1 k1_1]) rfl,
  fun f s W h i j k l a => opv rfl rfl (by simp [go_sem, a.e 3 (i 0 rfl), cb br1_0 h 0, cb br1_0 h 1]) rfl,
  fun f s W h i j k l a => opc rfl rfl (by simp [go_sem, a.e 4 (i 1 rfl)]) (spanR_any l1 h1' (0) (3000) W),
  fun f s W h i j k l a => opv rfl rfl (by simp [go_sem, a.e 5 (i 2 rfl)]) rfl,
  fun f s W h i j k l a => opv rfl rfl (by simp [go_sem, a.e 6 (i 3 rfl)]) rfl,
  fun f s W h i j k l a => gdo rfl rfl (a.says (d := 7) rfl rfl (i 4 rfl)) fun hgd0 => gv (by simp [go_sem, a.e 1 k1_1]) rfl,
  fun f s W h i j k l a => gdo rfl rfl (a.says (d := 7) rfl rfl (i 4 rfl)) fun hgd0 => gv (by simp [go_sem, a.e 8 ((i 5 rfl).1 hgd0), cb br1_0 h 2, cb br1_0 h 3]) rfl,
  fun f s W h i j k l a => gdo rfl rfl (a.says (d := 7) rfl rfl (i 4 rfl)) fun hgd0 => gc (by simp [go_sem, a.e 9 ((i 6 rfl).1 hgd0)]) (spanR_any l2 h2' (0) (3000) W),
  fun f s W h i j k l a => gdo rfl rfl (a.says (d := 7) rfl rfl (i 4 rfl)) fun hgd0 => gv (by simp [go_sem, a.e 10 ((i 7 rfl).1 hgd0)]) rfl,
  fun f s W h i j k l a => opk (c := !(spanR l1 h1' (0) (3000))) rfl rfl (fun hpk => by simp [go_sem, hpk, a.e 7 (i 4 rfl), a.e 11 ((i 8 rfl).1 hpk)]) (fun hpk => by simp [go_sem, hpk, a.e 7 (i 4 rfl)]),
  fun f s W h i j k l a => opv rfl rfl (by simp [go_sem, a.e 12 (i 9 rfl)]) rfl,
  fun f s W h i j k l a => gdo rfl rfl (a.says (d := 13) rfl rfl (i 10 rfl)) fun hgd0 => gv (by simp [go_sem, a.e 1 k1_1]) rfl,
  fun f s W h i j k l a => gdo rfl rfl (a.says (d := 13) rfl rfl (i 10 rfl)) fun hgd0 => gv (by simp [go_sem, a.e 14 ((i 11 rfl).1 hgd0), cb br1_0 h 4, cb br1_0 h 5]) rfl,
  fun f s W h i j k l a => gdo rfl rfl (a.says (d := 13) rfl rfl (i 10 rfl)) fun hgd0 => gc (by simp [go_sem, a.e 15 ((i 12 rfl).1 hgd0)]) (spanR_any l3 h3' (0) (3000) W),
  fun f s W h i j k l a => gdo rfl rfl (a.says (d := 13) rfl rfl (i 10 rfl)) fun hgd0 => gv (by simp [go_sem, a.e 16 ((i 13 rfl).1 hgd0)]) rfl,
  fun f s W h i j k l a => opk (c := (!(spanR l1 h1' (0) (3000))) || (!(spanR l2 h2' (0) (3000)))) rfl rfl (fun hpk => by simp [go_sem, hpk, a.e 13 (i 10 rfl), a.e 17 ((i 14 rfl).1 hpk)]) (fun hpk => by simp [go_sem, hpk, a.e 13 (i 10 rfl)]),
  fun f s W h i j k l a => opv rfl rfl (by simp [go_sem, a.e 18 (i 15 rfl)]) rfl,
  fun f s W h i j k l a => gdo rfl rfl (a.says (d := 19) rfl rfl (i 16 rfl)) fun hgd0 => gv (by simp [go_sem, a.e 1 k1_1]) rfl,
  fun f s W h i j k l a => gdo rfl rfl (a.says (d := 19) rfl rfl (i 16 rfl)) fun hgd0 => gv (by simp [go_sem, a.e 20 ((i 17 rfl).1 hgd0), cb br1_0 h 6, cb br1_0 h 7]) rfl,
  fun f s W h i j k l a => gdo rfl rfl (a.says (d := 19) rfl rfl (i 16 rfl)) fun hgd0 => gc (by simp [go_sem, a.e 21 ((i 18 rfl).1 hgd0)]) (spanR_any l4 h4' (-3000) (3000) W),
  fun f s W h i j k l a => gdo rfl rfl (a.says (d := 19) rfl rfl (i 16 rfl)) fun hgd0 => gv (by simp [go_sem, a.e 22 ((i 19 rfl).1 hgd0)]) rfl,
  fun f s W h i j k l a => opk (c := ((!(spanR l1 h1' (0) (3000))) || (!(spanR l2 h2' (0) (3000)))) || (!(spanR l3 h3' (0) (3000)))) rfl rfl (fun hpk => by simp [go_sem, hpk, a.e 19 (i 16 rfl), a.e 23 ((i 20 rfl).1 hpk)]) (fun hpk => by simp [go_sem, hpk, a.e 19 (i 16 rfl)]),
  fun f s W h i j k l a => opv rfl rfl (by simp [go_sem, a.e 24 (i 21 rfl)]) rfl,
  fun f s W h i j k l a => gdo rfl rfl (a.says (d := 25) rfl rfl (i 22 rfl)) fun hgd0 => gv (by simp [go_sem, a.e 1 k1_1]) rfl,
  fun f s W h i j k l a => gdo rfl rfl (a.says (d := 25) rfl rfl (i 22 rfl)) fun hgd0 => gv (by simp [go_sem, a.e 26 ((i 23 rfl).1 hgd0), cb br1_0 h 8, cb br1_0 h 9]) rfl,
  fun f s W h i j k l a => gdo rfl rfl (a.says (d := 25) rfl rfl (i 22 rfl)) fun hgd0 => gc (by simp [go_sem, a.e 27 ((i 24 rfl).1 hgd0)]) (spanR_any l5 h5' (-3000) (3000) W),
  fun f s W h i j k l a => gdo rfl rfl (a.says (d := 25) rfl rfl (i 22 rfl)) fun hgd0 => gv (by simp [go_sem, a.e 28 ((i 25 rfl).1 hgd0)]) rfl,
  fun f s W h i j k l a => opk (c := (((!(spanR l1 h1' (0) (3000))) || (!(spanR l2 h2' (0) (3000)))) || (!(spanR l3 h3' (0) (3000)))) || (!(spanR l4 h4' (-3000) (3000)))) rfl rfl (fun hpk => by simp [go_sem, hpk, a.e 25 (i 22 rfl), a.e 29 ((i 26 rfl).1 hpk)]) (fun hpk => by simp [go_sem, hpk, a.e 25 (i 22 rfl)]), trivial⟩ ?_
 intro f2 s2 W2 hB2 g2 hg2
 have fB2 := hB2.f fB1
 have z2 := hB2.below.size
 have b2_0 := hB2.b br1_0
 refine hK3 _ _ ?_
 have k2_2 := kt hg2 2 k1_2
 have k2_30 := kt hg2 30 (hB2.is 27)
 refine wp_cond_split (t := ((((!(spanR l1 h1' (0) (3000))) || (!(spanR l2 h2' (0) (3000)))) || (!(spanR l3 h3' (0) (3000)))) || (!(spanR l4 h4' (-3000) (3000)))) || (!(spanR l5 h5' (-3000) (3000)))) ((fr_eval rfl).trans k2_30) (fun hc4 => ?_) (fun hc4 => ?_)
 ·
  have hc4' := hc4; try simp only [ba] at hc4'
  refine wp_seq_k fun K5 hK5 => ?_
  refine region_dk 1 [(2, 0)] [[]] (rel [is (.int .i64 2)])
   ⟨is_k, trivial⟩
   ⟨fun f s W h i j k l a => opv rfl rfl (by simp [go_sem]) rfl, trivial⟩ ?_
  intro f3 s3 W3 hB3 g3 hg3
  have fB3 := hB3.f fB2
  have z3 := hB3.below.size
  have b3_0 := hB3.b b2_0
  refine hK5 _ _ ?_
  have k3_2 := kt hg3 2 (hB3.is 0)
  refine wp_ret ?_
  refine then_ret ?_
  refine leave_one (N := 31) (v := .int .i64 2) (.inr rfl) Tryz.results24 rfl k3_2 ?_
  exact ⟨by rw [wishR, show wishRB ⟨(l1, h1'), (l2, h2'), (l3, h3'), (l4, h4'), (l5, h5'), wo⟩ = _ from hc4]; rfl, fB3⟩
 ·
  have hc4' := hc4; try simp only [ba] at hc4'
  refine wp_skip ?_
  refine hK2 _ _ ?_
  refine wp_seq_k fun K6 hK6 => ?_
  refine region_dk 1 [(2, 0)] [[]] (rel [is (.int .i64 0)])
   ⟨is_k, trivial⟩
   ⟨fun f s W h i j k l a => opv rfl rfl (by simp [go_sem]) rfl, trivial⟩ ?_
  intro f4 s4 W4 hB4 g4 hg4
  have fB4 := hB4.f fB2
  have z4 := hB4.below.size
  have b4_0 := hB4.b b2_0
  refine hK6 _ _ ?_
  have k4_2 := kt hg4 2 (hB4.is 0)
  refine wp_ret ?_
  refine leave_one (N := 31) (v := .int .i64 0) (.inr rfl) Tryz.results24 rfl k4_2 ?_
  exact ⟨by rw [wishR, show wishRB ⟨(l1, h1'), (l2, h2'), (l3, h3'), (l4, h4'), (l5, h5'), wo⟩ = _ from hc4]; rfl, fB4⟩
end Go.Proofs.YthnediamopehfaaGreat
namespace Go.Proofs.YthnediamopehfaaGreat
open Go.RowKit
theorem wishR_eq (w : Wi) : wishR w = wishErr w := by
  unfold wishR wishErr wishRB
  simp only [spanR_eq]
  cases isSpan w.length 0 3000 <;> cases isSpan w.width 0 3000 <;> cases isSpan w.height 0 3000 <;> cases isSpan w.outer (-3000) 3000 <;> cases isSpan w.inner (-3000) 3000 <;> rfl
end Go.Proofs.YthnediamopehfaaGreat
namespace Go.Proofs.YthnediamopehfaaGreat
open Go.RowKit
theorem next_hs {w : Wi} {s : Sp} {i : Nat} {r : Bl × Int} {p : Int} : (nextP w s i r p).1.height = r.1.height ∧ (nextP w s i r p).1.slot = r.1.slot := by
  unfold nextP
  split
  · split
    · exact ⟨rfl, rfl⟩
    · split
      · exact ⟨rfl, rfl⟩
      · exact ⟨rfl, rfl⟩
  · exact ⟨rfl, rfl⟩
theorem step_hs {w : Wi} {s : Sp} {i : Nat} {b : Bl} (n : Nat) : (stepP w s i b n).1.height = b.height ∧ (stepP w s i b n).1.slot = b.slot := by
  induction n with
  | zero => exact ⟨rfl, rfl⟩
  | succ n ih =>
    rw [step_eq]
    split
    · exact ih
    · exact ⟨next_hs.1.trans ih.1, next_hs.2.trans ih.2⟩
theorem out_hs {w : Wi} {s : Sp} {tab : Int} {N : Nat} (i : Nat) : (outP w s tab N i).1.height = 1 ∧ (outP w s tab N i).1.slot = 20 := by
  induction i with
  | zero => exact ⟨rfl, rfl⟩
  | succ i ih =>
    rw [out_eq]
    exact ⟨(step_hs N).1.trans ih.1, (step_hs N).2.trans ih.2⟩
theorem blankR_any (vi : Wi) (lo hi tab : Int) (hw : WishIn vi) (gl : 1 ≤ lo) (glh : lo ≤ hi) (gh : hi ≤ 10000) (ht : 0 ≤ tab ∧ tab ≤ 100) {B : Bl} {c er : Int} (hB : blankOf vi lo hi tab = (B, c, er)) :
    ∃ (X : Bl) (k : Int), (X.panels.length = 4 ∧ X.top.length = 2 ∧ X.bottom.length = 2) ∧ (er = 0 → c = 0 ∧ k = 10 ∧ X = B) ∧ (er ≠ 0 → er = 9 ∧ k = c ∧ c < 10) ∧ ∀ w, Calls Tryz.prog 30 #[.agg #[.int .i64 vi.length.1, .int .i64 vi.length.2, .int .i64 vi.width.1, .int .i64 vi.width.2, .int .i64 vi.height.1, .int .i64 vi.height.2, .int .i64 vi.outer.1, .int .i64 vi.outer.2, .int .i64 vi.inner.1, .int .i64 vi.inner.2, .bool vi.isOpen], .agg #[.int .i64 lo, .int .i64 hi], .int .i64 tab] w (fun e w' => ∃ v, e = .returned (.tuple #[v, .int .i64 k]) ∧ NwBlk w.heap.size X v w' ∧ Below w.heap.size w w') := by
  obtain ⟨N, hN⟩ : ∃ N : Nat, N = 3000 := ⟨_, rfl⟩
  have hs := search_blank hN ht glh hB
  obtain ⟨Ou, hOu⟩ : ∃ Ou : Nat → Bl × Int, ∀ i, Ou i = outP vi (lo, hi) tab N i := ⟨_, fun _ => rfl⟩
  obtain ⟨St, hSt⟩ : ∃ St : Nat → Nat → Bl × Int, ∀ i n, St i n = stepP vi (lo, hi) i (Ou i).1 n := ⟨_, fun _ _ => rfl⟩
  obtain ⟨Hs, hHs⟩ : ∃ Hs : Nat → Int × Int, ∀ m, Hs m = highP vi (lo, hi) (Ou 4).1 m := ⟨_, fun _ => rfl⟩
  have hok := fun (i : Nat) (hi' : i ≤ 4) => out_ok (w := vi) (s := (lo, hi)) (N := N) ht (by omega) i hi'
  refine ⟨refBl (Ou 4).1 (Hs 3000).1 (upI hi 1000), (if 0 ≤ (Hs 3000).2 then min (Ou 4).2 (Hs 3000).2 else (Ou 4).2), ?_, fun he => ?_, fun he => ?_, fun w => ?_⟩
  · show (Ou 4).1.panels.length = 4 ∧ (Ou 4).1.top.length = 2 ∧ (Ou 4).1.bottom.length = 2
    rw [hOu 4]; exact (good_nums (hok 4 (by decide)).1).1
  · rw [← hN, hHs N, hOu 4]
    exact hs.1 he
  · rw [← hN, hHs N, hOu 4]
    exact hs.2 he
  · refine blank_ref vi lo hi tab St Ou Hs w hw (by omega) (by omega) gh (by omega) ?_ ?_ ?_ ?_ ?_ ?_ ?_ ?_ ?_ ?_ ?_ ?_ ?_
    · exact (hOu 0).trans rfl
    · intro i hi4
      rw [← hN, hSt i N, hOu (i + 1), out_eq, ← hOu i]
    · exact fun i => (hSt i 0).trans rfl
    · intro i n h0
      rw [hSt] at h0
      rw [hSt i (n + 1), hSt i n, step_eq, if_neg (by omega)]
    · intro i n h hn
      rw [hSt] at h
      have h1 := step_end h (N - n)
      rw [show n + (N - n) = N by omega] at h1
      rw [← hN, hSt i n, hSt i N]
      exact h1.symm
    · intro i hi4
      rw [hOu]
      exact hok i hi4
    · intro i n hi4 hn
      rw [hSt, hOu]
      exact step_ok hi4 (hok i (by omega)).1 (hok i (by omega)).2.1 n hn
    · rw [hOu]; exact (out_hs 4).1
    · rw [hOu]; exact (out_hs 4).2
    · exact (hHs 0).trans rfl
    · intro m h0
      rw [hHs] at h0
      rw [hHs (m + 1), hHs m, high_eq, if_neg (by omega)]
    · intro m h hn
      rw [hHs] at h
      have h1 := high_end h (N - m)
      rw [show m + (N - m) = N by omega] at h1
      rw [← hN, hHs m, hHs N]
      exact h1.symm
    · intro m
      rw [hHs]
      exact high_in m
theorem zero_blk (w : World) : Blk w (.agg #[.int .i64 0, .slice (none) (0) (0), .int .i64 0, .slice (none) (0) (0), .slice (none) (0) (0), .int .i64 0, .bool false]) ⟨0, [], 0, [], [], 0, false⟩ := ⟨none, 0, 0, none, 0, 0, none, 0, 0, rfl, ii_nil w, ii_nil w, ii_nil w⟩
set_option maxRecDepth 100000 in
set_option maxHeartbeats 1000000 in
theorem none_zero (w : World) :
  Calls Tryz.prog 29 #[.agg #[.int .i64 0, .slice (none) (0) (0), .int .i64 0, .slice (none) (0) (0), .slice (none) (0) (0), .int .i64 0, .bool false]] w (fun e w' => e = .returned (.bool true) ∧ Below w.heap.size w w') := by
 refine calls_fr Tryz.func29 Tryz.ntmps29 rfl rfl fun g hg => ?_
 have k0 : g 0 = .agg #[.int .i64 0, .slice (none) (0) (0), .int .i64 0, .slice (none) (0) (0), .slice (none) (0) (0), .int .i64 0, .bool false] := hg 0
 clear hg
 have fB0 : Below w.heap.size w w := Below.refl _ _
 refine wp_seq_k fun K1 hK1 => ?_
 refine region_dk 2 [(1, 0), (2, 1)] [[], []] (rel [bx 0 #[.int .i64 0, .slice (none) (0) (0), .int .i64 0, .slice (none) (0) (0), .slice (none) (0) (0), .int .i64 0, .bool false] 24,
   is (.bool false)])
  ⟨bx_k, is_k, trivial⟩
  ⟨fun f s W c i j k l a => opb rfl rfl (by simp [go_sem, a.e 0 k0]),
  fun f s W c i j k l a => opv rfl rfl (by simp [go_sem]) rfl, trivial⟩ ?_
 intro f1 s1 W1 hB1 g1 hg1
 have fB1 := hB1.f fB0
 have z1 := hB1.below.size
 obtain ⟨r1_0, br1_0⟩ := hB1.is 0
 have lr1_0 := hB1.lr 0 br1_0
 refine hK1 _ _ ?_
 have k1_1 := kt hg1 1 r1_0
 have k1_2 := kt hg1 2 (hB1.is 1)
 refine wp_seq_k fun K2 hK2 => ?_
 refine region_dk 4 [(3, 0), (4, 1), (5, 2), (2, 3)] [[], [], [0, 1], [0, 1, 2]] (rel [is (.agg #[.int .i64 0, .slice (none) (0) (0), .int .i64 0, .slice (none) (0) (0), .slice (none) (0) (0), .int .i64 0, .bool false]),
   is (.agg #[.int .i64 0, .slice (none) (0) (0), .int .i64 0, .slice (none) (0) (0), .slice (none) (0) (0), .int .i64 0, .bool false]),
   is (.bool true),
   is (.bool true)])
  ⟨is_k, is_k, is_k, is_k, trivial⟩
  ⟨fun f s W c i j k l a => opv rfl rfl (by simp [go_sem, a.e 1 k1_1, cb br1_0 c 0, cb br1_0 c 1, cb br1_0 c 2, cb br1_0 c 3, cb br1_0 c 4, cb br1_0 c 5, cb br1_0 c 6]) rfl,
  fun f s W c i j k l a => opv rfl rfl (by simp [go_sem]) rfl,
  fun f s W c i j k l a => opDo_call rfl rfl (by simp [go_sem, a.e 3 (i 0 rfl), a.e 4 (i 1 rfl)]) (same_blk (b := ⟨0, [], 0, [], [], 0, false⟩) (d := ⟨0, [], 0, [], [], 0, false⟩) (zero_blk W) (zero_blk W)) ((fun e W' h => by have h1 := h.1; rw [sameB_self] at h1; exact ⟨_, h1, h.2, rfl⟩)),
  fun f s W c i j k l a => opv rfl rfl (by simp [go_sem, a.e 5 (i 2 rfl)]) rfl, trivial⟩ ?_
 intro f2 s2 W2 hB2 g2 hg2
 have fB2 := hB2.f fB1
 have z2 := hB2.below.size
 have b2_0 := hB2.b br1_0
 refine hK2 _ _ ?_
 have k2_2 := kt hg2 2 (hB2.is 3)
 refine wp_ret ?_
 refine leave_one (N := 6) (v := .bool true) (.inr rfl) Tryz.results29 rfl k2_2 ?_
 exact ⟨rfl, fB2⟩
theorem all_e1 {vi : Wi} {lo hi tab E : Int} (h : wishErr vi = E) (hn : (E != 0) = true) : blankAll vi lo hi tab = (⟨0, [], 0, [], [], 0, false⟩, 0, E) := by
  have h0 : ¬ (wishErr vi == 0) = true := by rw [h]; intro e; have := beq_iff_eq.1 e; subst this; cases hn
  unfold blankAll; rw [if_neg h0, h]
theorem all_e2 {vi : Wi} {lo hi tab : Int} (h : wishErr vi = 0) (hs : isSpan (lo, hi) 1 10000 = false) : blankAll vi lo hi tab = (⟨0, [], 0, [], [], 0, false⟩, 0, 3) := by
  have h1 : checkedErr [] [(lo, hi)] = 3 := by simp [checkedErr, hs]
  unfold blankAll; rw [if_pos (by rw [h]; rfl), if_pos (by rw [h1]; rfl), h1]
theorem all_e3 {vi : Wi} {lo hi tab : Int} (h : wishErr vi = 0) (hs : isSpan (lo, hi) 1 10000 = true) (ht : inB tab 0 100 = false) : blankAll vi lo hi tab = (⟨0, [], 0, [], [], 0, false⟩, 0, 5) := by
  have h1 : checkedErr [] [(lo, hi)] = 0 := by simp [checkedErr, hs]
  unfold blankAll; rw [if_pos (by rw [h]; rfl), if_neg (by rw [h1]; decide), if_pos (by rw [within_one, ht]; rfl)]
theorem all_e4 {vi : Wi} {lo hi tab : Int} (h : wishErr vi = 0) (hs : isSpan (lo, hi) 1 10000 = true) (ht : inB tab 0 100 = true) : blankAll vi lo hi tab = blankOf vi lo hi tab := by
  have h1 : checkedErr [] [(lo, hi)] = 0 := by simp [checkedErr, hs]
  unfold blankAll; rw [if_pos (by rw [h]; rfl), if_neg (by rw [h1]; decide), if_neg (by rw [within_one, ht]; decide)]
theorem blank_all (l1 h1' l2 h2' l3 h3' l4 h4' l5 h5' : Int) (wo : Bool) (lo hi tab : Int) (w : World) : Calls Tryz.prog 28 #[.agg #[.int .i64 l1, .int .i64 (h1'), .int .i64 l2, .int .i64 (h2'), .int .i64 l3, .int .i64 (h3'), .int .i64 l4, .int .i64 (h4'), .int .i64 l5, .int .i64 (h5'), .bool wo], .agg #[.int .i64 lo, .int .i64 hi], .int .i64 tab] w (BlankP (blankAll ⟨(l1, h1'), (l2, h2'), (l3, h3'), (l4, h4'), (l5, h5'), wo⟩ lo hi tab) w) := by
  by_cases hw : (wishErr ⟨(l1, h1'), (l2, h2'), (l3, h3'), (l4, h4'), (l5, h5'), wo⟩ == 0) = true
  · cases hc : (checkedErr [] [(lo, hi)] != 0) with
    | true => exact blank_bad l1 h1' l2 h2' l3 h3' l4 h4' l5 h5' lo hi wo tab w fun _ h => by rw [hc] at h; cases h
    | false =>
      cases ht : (!(within 0 100 [tab])) with
      | true => exact blank_bad l1 h1' l2 h2' l3 h3' l4 h4' l5 h5' lo hi wo tab w fun _ _ => ht
      | false =>
        by_cases he : (blankOf ⟨(l1, h1'), (l2, h2'), (l3, h3'), (l4, h4'), (l5, h5'), wo⟩ lo hi tab).2.2 = 0
        · exact blank_good l1 h1' l2 h2' l3 h3' l4 h4' l5 h5' lo hi wo tab w hw hc ht he
        · exact blank_err l1 h1' l2 h2' l3 h3' l4 h4' l5 h5' lo hi wo tab w hw hc ht he
  · exact blank_bad l1 h1' l2 h2' l3 h3' l4 h4' l5 h5' lo hi wo tab w fun h => absurd h hw
end Go.Proofs.YthnediamopehfaaGreat
