/- Part of the proof: what the claim leans on. -/
import Derived.Test.YtiocklgakklkpaaLAZ
set_option linter.unusedSimpArgs false
set_option linter.unusedVariables false
namespace Go.Proofs.Ytiocklgakklkpaa
open Go.RowKit
set_option maxRecDepth 100000 in
set_option maxHeartbeats 40000000 in
theorem lid_main (fv : Nat → Int) (mv mo : Int) (ps : Nat → Pa) (qs : Nat → Fu) (ta : Option Addr) (tn tc : Nat) (bs : Nat → Int) (tb1 lg1 wd1 hh1 fp1 fq1 sl1 tb2 lg2 wd2 hh2 fp2 fq2 sl2 : Int) (b1 b2 : Bl) (ka kb kc kd m1 m2 m3 m4 ca cb x0 x1 x2 P1 P2 : Int) (sv1 pv1 sv2 lv hv : Bool) (PL : List Sp) (w : World) (gmv : 0 ≤ mv ∧ mv ≤ 255) (hmo : mv % 40 = mo) (hst : ∀ W, Calls Try.prog 6 #[.agg #[.int .u8 ((fv 0)), .int .u8 ((fv 1)), .int .u8 ((fv 2)), .int .u8 ((fv 3)), .int .u8 ((fv 4)), .int .u8 ((fv 5)), .int .u8 ((fv 6)), .int .u8 ((fv 7)), .int .u8 ((fv 8)), .int .u8 ((fv 9)), .int .u8 ((fv 10)), .int .u8 ((fv 11)), .int .u8 ((fv 12)), .int .u8 ((fv 13)), .int .u8 ((fv 14)), .int .u8 ((fv 15)), .int .u8 ((fv 16)), .int .u8 ((fv 17)), .int .u8 ((fv 18)), .int .u8 ((fv 19)), .int .u8 ((fv 20)), .int .u8 ((fv 21)), .int .u8 ((fv 22)), .int .u8 ((fv 23)), .int .u8 ((fv 24))]] W (StoOP ps qs W)) (hbox1 : ∀ W, Calls Try.prog 7 #[.agg #[.int .u8 ((fv 0)), .int .u8 ((fv 1)), .int .u8 ((fv 2)), .int .u8 ((fv 3)), .int .u8 ((fv 4)), .int .u8 ((fv 5)), .int .u8 ((fv 6)), .int .u8 ((fv 7)), .int .u8 ((fv 8)), .int .u8 ((fv 9)), .int .u8 ((fv 10)), .int .u8 ((fv 11)), .int .u8 ((fv 12)), .int .u8 ((fv 13)), .int .u8 ((fv 14)), .int .u8 ((fv 15)), .int .u8 ((fv 16)), .int .u8 ((fv 17)), .int .u8 ((fv 18)), .int .u8 ((fv 19)), .int .u8 ((fv 20)), .int .u8 ((fv 21)), .int .u8 ((fv 22)), .int .u8 ((fv 23)), .int .u8 ((fv 24))], .int .i64 mo] W (BoxOP tb1 lg1 wd1 hh1 fp1 fq1 sl1 W)) (hbox2 : ∀ W, Calls Try.prog 7 #[.agg #[.int .u8 ((fv 0)), .int .u8 ((fv 1)), .int .u8 ((fv 2)), .int .u8 ((fv 3)), .int .u8 ((fv 4)), .int .u8 ((fv 5)), .int .u8 ((fv 6)), .int .u8 ((fv 7)), .int .u8 ((fv 8)), .int .u8 ((fv 9)), .int .u8 ((fv 10)), .int .u8 ((fv 11)), .int .u8 ((fv 12)), .int .u8 ((fv 13)), .int .u8 ((fv 14)), .int .u8 ((fv 15)), .int .u8 ((fv 16)), .int .u8 ((fv 17)), .int .u8 ((fv 18)), .int .u8 ((fv 19)), .int .u8 ((fv 20)), .int .u8 ((fv 21)), .int .u8 ((fv 22)), .int .u8 ((fv 23)), .int .u8 ((fv 24))], .int .i64 0] W (BoxOP tb2 lg2 wd2 hh2 fp2 fq2 sl2 W)) (hI : FoldIn ps qs) (hb1 : (⟨tb1, [lg1, wd1, lg1, wd1], hh1, [fp1, fp1], [fp1, fq1], sl1, false⟩ : Bl) = b1) (hb2 : (⟨tb2, [lg2, wd2, lg2, wd2], hh2, [fp2, fp2], [fp2, fq2], sl2, false⟩ : Bl) = b2) (hck1 : checkErr b1 = 0) (hck2 : checkErr b2 = 0) (hT : ByV w ta tn bs) (hm1 : w1S (o1 (ps 0)) (o1 (ps 1)) (o1 (ps 2)) (qs 0) = m1) (hm2 : w1S (o2 (ps 0)) (o2 (ps 1)) (o2 (ps 2)) (qs 0) = m2) (hka : lo1 ps qs = ka) (hkb : hi1 ps qs = kb) (hm3 : w2S (o1 (ps 0)) (o1 (ps 1)) (o1 (ps 2)) (qs 0) (qs 1) = m3) (hm4 : w2S (o2 (ps 0)) (o2 (ps 1)) (o2 (ps 2)) (qs 0) (qs 1) = m4) (hkc : lo2 ps qs = kc) (hkd : hi2 ps qs = kd) (hca : cal1 ps qs tn bs = ca) (hcb : cal2 ps qs tn bs = cb) (gca : ka ≤ ca ∧ ca ≤ kb) (gcb : kc ≤ cb ∧ cb ≤ kd) (j1 : 1 ≤ ka) (j2 : ka ≤ kb) (j3 : kb ≤ 10000) (j4 : 1 ≤ kc) (j5 : kc ≤ kd) (j6 : kd ≤ 10000) (hPL : playL b1 b2 (ka, kb) (kc, kd) = PL) (hn4 : PL.length = 4) (hPL4 : ∀ i, i < 4 → nthP PL i = (P1, P2)) (hP1 : 1000 * (lg1 - lg2) - kb - kd = P1) (hP2 : 1000 * (lg1 - lg2) - ka - kc = P2) (hdd' : lg1 - lg2 = wd1 - wd2) (hx0 : (1000 * lg2 - kc) / 1000 = x0) (hx1 : (1000 * wd2 - kc) / 1000 = x1) (hx2 : (1000 * hh2 - 2 * kc) / 1000 = x2) (gx0 : 0 ≤ x0 ∧ x0 ≤ 3000) (gx1 : 0 ≤ x1 ∧ x1 ≤ 3000) (gx2 : 0 ≤ x2 ∧ x2 ≤ 3000) (hs2 : insideB b2 kd x0 x1 x2 = sv2) (hp2 : insideB b2 kc x0 x1 x2 = true) (hs1 : insideB b1 kb x0 x1 x2 = sv1) (hp1 : insideB b1 ka x0 x1 x2 = pv1) (gg1 : 0 ≤ lg1 ∧ lg1 ≤ 3000) (gg2 : 0 ≤ wd1 ∧ wd1 ≤ 3000) (gg3 : 0 ≤ hh1 ∧ hh1 ≤ 3000) (gg4 : 40 ≤ lg2 ∧ lg2 ≤ 3000) (gg5 : 40 ≤ wd2 ∧ wd2 ≤ 3000) (gg6 : 40 ≤ hh2 ∧ hh2 ≤ 3000) (hlo : decide (0 ≤ P1) = lv) (hhi : decide (1000 * x2 ≤ 1000 * hh1 - 2 * kb) = hv) (hfin : (!lv || !hv || sv1) = true) :
  Calls Try.prog 3 #[.agg #[.int .u8 ((fv 0)), .int .u8 ((fv 1)), .int .u8 ((fv 2)), .int .u8 ((fv 3)), .int .u8 ((fv 4)), .int .u8 ((fv 5)), .int .u8 ((fv 6)), .int .u8 ((fv 7)), .int .u8 ((fv 8)), .int .u8 ((fv 9)), .int .u8 ((fv 10)), .int .u8 ((fv 11)), .int .u8 ((fv 12)), .int .u8 ((fv 13)), .int .u8 ((fv 14)), .int .u8 ((fv 15)), .int .u8 ((fv 16)), .int .u8 ((fv 17)), .int .u8 ((fv 18)), .int .u8 ((fv 19)), .int .u8 ((fv 20)), .int .u8 ((fv 21)), .int .u8 ((fv 22)), .int .u8 ((fv 23)), .int .u8 ((fv 24))], .int .u8 mv, .slice (ta) (tn) (tc)] w (fun e w' => e = .returned (.bool true) ∧ Below w.heap.size w w') := by
 have hL4z : ((PL.length : Int) != 4) = false := by rw [hn4]; rfl
 have gmo : 0 ≤ mo ∧ mo ≤ 39 := by omega
 refine calls_fr Try.func3 Try.ntmps3 rfl rfl fun g hg => ?_
 have k0 : g 0 = .agg #[.int .u8 ((fv 0)), .int .u8 ((fv 1)), .int .u8 ((fv 2)), .int .u8 ((fv 3)), .int .u8 ((fv 4)), .int .u8 ((fv 5)), .int .u8 ((fv 6)), .int .u8 ((fv 7)), .int .u8 ((fv 8)), .int .u8 ((fv 9)), .int .u8 ((fv 10)), .int .u8 ((fv 11)), .int .u8 ((fv 12)), .int .u8 ((fv 13)), .int .u8 ((fv 14)), .int .u8 ((fv 15)), .int .u8 ((fv 16)), .int .u8 ((fv 17)), .int .u8 ((fv 18)), .int .u8 ((fv 19)), .int .u8 ((fv 20)), .int .u8 ((fv 21)), .int .u8 ((fv 22)), .int .u8 ((fv 23)), .int .u8 ((fv 24))] := hg 0
 have k1 : g 1 = .int .u8 mv := hg 1
 have k2 : g 2 = .slice (ta) (tn) (tc) := hg 2
 clear hg
 have fB0 : Below w.heap.size w w := Below.refl _ _
 refine wp_seq_k fun K1 hK1 => ?_
 as_aux_lemma =>
 refine region_dk 2 [(3, 0), (6, 1)] [[], []] (rel [bx 0 #[.int .u8 ((fv 0)), .int .u8 ((fv 1)), .int .u8 ((fv 2)), .int .u8 ((fv 3)), .int .u8 ((fv 4)), .int .u8 ((fv 5)), .int .u8 ((fv 6)), .int .u8 ((fv 7)), .int .u8 ((fv 8)), .int .u8 ((fv 9)), .int .u8 ((fv 10)), .int .u8 ((fv 11)), .int .u8 ((fv 12)), .int .u8 ((fv 13)), .int .u8 ((fv 14)), .int .u8 ((fv 15)), .int .u8 ((fv 16)), .int .u8 ((fv 17)), .int .u8 ((fv 18)), .int .u8 ((fv 19)), .int .u8 ((fv 20)), .int .u8 ((fv 21)), .int .u8 ((fv 22)), .int .u8 ((fv 23)), .int .u8 ((fv 24))] 28,
   is (.bool false)])
  ⟨bx_k, is_k, trivial⟩
  ⟨fun f s W j k l m n a => opb rfl rfl (by simp [go_sem, a.e 0 k0]),
  fun f s W j k l m n a => opv rfl rfl (by simp [go_sem]) rfl, trivial⟩ ?_
 intro f1 s1 W1 hB1 g1 hg1
 have fB1 := hB1.f fB0
 have z1 := hB1.below.size
 obtain ⟨r1_0, br1_0⟩ := hB1.is 0
 have lr1_0 := hB1.lr 0 br1_0
 refine hK1 _ _ ?_
 have k1_1 := kt hg1 1 k1
 have k1_2 := kt hg1 2 k2
 have k1_3 := kt hg1 3 r1_0
 have k1_6 := kt hg1 6 (hB1.is 1)
 refine wp_seq_k fun K2 hK2 => ?_
 as_aux_lemma =>
 refine region_dk 12 [(31, 0), (32, 1), (33, 2), (34, 3), (35, 4), (36, 5), (37, 6), (38, 7), (39, 8), (7, 9), (8, 10), (9, 11)] [[], [0], [], [], [3], [3, 4], [0, 1, 2, 3, 4, 5], [], [0, 1, 2, 3, 4, 5, 6, 7], [], [], [], [0, 1, 2, 3, 4, 5, 6, 7, 8, 9, 10, 11], [0, 1, 2, 3, 4, 5, 6, 7, 8, 9, 10, 11, 12], [0, 1, 2, 3, 4, 5, 6, 7, 8, 9, 10, 11, 12, 13]] (rel [is (.agg #[.int .u8 ((fv 0)), .int .u8 ((fv 1)), .int .u8 ((fv 2)), .int .u8 ((fv 3)), .int .u8 ((fv 4)), .int .u8 ((fv 5)), .int .u8 ((fv 6)), .int .u8 ((fv 7)), .int .u8 ((fv 8)), .int .u8 ((fv 9)), .int .u8 ((fv 10)), .int .u8 ((fv 11)), .int .u8 ((fv 12)), .int .u8 ((fv 13)), .int .u8 ((fv 14)), .int .u8 ((fv 15)), .int .u8 ((fv 16)), .int .u8 ((fv 17)), .int .u8 ((fv 18)), .int .u8 ((fv 19)), .int .u8 ((fv 20)), .int .u8 ((fv 21)), .int .u8 ((fv 22)), .int .u8 ((fv 23)), .int .u8 ((fv 24))]),
   ab fun v W => StoO 0 ps qs v W,
   is (.agg #[.int .u8 ((fv 0)), .int .u8 ((fv 1)), .int .u8 ((fv 2)), .int .u8 ((fv 3)), .int .u8 ((fv 4)), .int .u8 ((fv 5)), .int .u8 ((fv 6)), .int .u8 ((fv 7)), .int .u8 ((fv 8)), .int .u8 ((fv 9)), .int .u8 ((fv 10)), .int .u8 ((fv 11)), .int .u8 ((fv 12)), .int .u8 ((fv 13)), .int .u8 ((fv 14)), .int .u8 ((fv 15)), .int .u8 ((fv 16)), .int .u8 ((fv 17)), .int .u8 ((fv 18)), .int .u8 ((fv 19)), .int .u8 ((fv 20)), .int .u8 ((fv 21)), .int .u8 ((fv 22)), .int .u8 ((fv 23)), .int .u8 ((fv 24))]),
   is (.int .u8 mv),
   is (.int .i64 mv),
   is (.int .i64 mo),
   ab fun v W => BoxO 0 tb1 lg1 wd1 hh1 fp1 fq1 sl1 v W,
   is (.agg #[.int .u8 ((fv 0)), .int .u8 ((fv 1)), .int .u8 ((fv 2)), .int .u8 ((fv 3)), .int .u8 ((fv 4)), .int .u8 ((fv 5)), .int .u8 ((fv 6)), .int .u8 ((fv 7)), .int .u8 ((fv 8)), .int .u8 ((fv 9)), .int .u8 ((fv 10)), .int .u8 ((fv 11)), .int .u8 ((fv 12)), .int .u8 ((fv 13)), .int .u8 ((fv 14)), .int .u8 ((fv 15)), .int .u8 ((fv 16)), .int .u8 ((fv 17)), .int .u8 ((fv 18)), .int .u8 ((fv 19)), .int .u8 ((fv 20)), .int .u8 ((fv 21)), .int .u8 ((fv 22)), .int .u8 ((fv 23)), .int .u8 ((fv 24))]),
   ab fun v W => BoxO 0 tb2 lg2 wd2 hh2 fp2 fq2 sl2 v W,
   bx 9 #[.slice (none) (0) (0), .slice (none) (0) (0)] 33,
   bx 10 #[.int .i64 0, .slice (none) (0) (0), .int .i64 0, .slice (none) (0) (0), .slice (none) (0) (0), .int .i64 0, .bool false] 37,
   bx 11 #[.int .i64 0, .slice (none) (0) (0), .int .i64 0, .slice (none) (0) (0), .slice (none) (0) (0), .int .i64 0, .bool false] 37])
  ⟨is_k, ab_k fun v W W' hb h => h.below hb, is_k, is_k, is_k, is_k, ab_k fun v W W' hb h => h.below hb, is_k, ab_k fun v W W' hb h => h.below hb, bx_k, bx_k, bx_k, trivial⟩
  ⟨fun f s W j k l m n a => opl rfl rfl rfl (a.v 3 k1_3) (blk_below br1_0 j) Try.underlying28 rfl (by kernel_rfl) rfl,
  fun f s W j k l m n a => opDo_call rfl rfl (by simp [go_sem, a.e 31 (k 0 rfl)]) (hst W) ((fun e W' h => by obtain ⟨v, e1, h1, h2⟩ := h; exact ⟨_, e1, h2, h1.low (Nat.zero_le _)⟩)),
  fun f s W j k l m n a => opl rfl rfl rfl (a.v 3 k1_3) (blk_below br1_0 j) Try.underlying28 rfl (by kernel_rfl) rfl,
  fun f s W j k l m n a => opv rfl rfl (by simp [go_sem, a.e 1 k1_1]) rfl,
  fun f s W j k l m n a => by have cv_ := IntWalk.i64_in mv (by omega); exact opv rfl rfl (by simp [go_sem, a.e 34 (k 3 rfl), cv_]) rfl,
  fun f s W j k l m n a => by have qu_ : (mv).tmod 40 = mo := (Int.tmod_eq_emod_of_nonneg (by omega)).trans hmo; have qw_ := IntWalk.i64_in mo (by omega); exact opv rfl rfl (by simp [go_sem, a.e 35 (k 4 rfl), qu_, qw_]) rfl,
  fun f s W j k l m n a => opDo_call rfl rfl (by simp [go_sem, a.e 33 (k 2 rfl), a.e 36 (k 5 rfl)]) (hbox1 W) ((fun e W' h => by obtain ⟨v, e1, h1, h2⟩ := h; exact ⟨_, e1, h2, h1.low (Nat.zero_le _)⟩)),
  fun f s W j k l m n a => opl rfl rfl rfl (a.v 3 k1_3) (blk_below br1_0 j) Try.underlying28 rfl (by kernel_rfl) rfl,
  fun f s W j k l m n a => opDo_call rfl rfl (by simp [go_sem, a.e 38 (k 7 rfl)]) (hbox2 W) ((fun e W' h => by obtain ⟨v, e1, h1, h2⟩ := h; exact ⟨_, e1, h2, h1.low (Nat.zero_le _)⟩)),
  fun f s W j k l m n a => opb rfl rfl (by simp [go_sem]),
  fun f s W j k l m n a => opb rfl rfl (by simp [go_sem]),
  fun f s W j k l m n a => opb rfl rfl (by simp [go_sem]), trivial⟩ ?_
 intro f2 s2 W2 hB2 g2 hg2
 have fB2 := hB2.f fB1
 have z2 := hB2.below.size
 have b2_0 := hB2.b br1_0
 obtain ⟨g1', c3', g2', c4', r2_1, q5', q6'⟩ := hB2.is 1
 obtain ⟨g7', c10', g8', c11', g9', c12', r2_6, q13', q14', q15'⟩ := hB2.is 6
 obtain ⟨g16', c19', g17', c20', g18', c21', r2_8, q22', q23', q24'⟩ := hB2.is 8
 obtain ⟨r2_9, br2_9⟩ := hB2.is 9
 have lr2_9 := hB2.lr 9 br2_9
 obtain ⟨r2_10, br2_10⟩ := hB2.is 10
 have lr2_10 := hB2.lr 10 br2_10
 obtain ⟨r2_11, br2_11⟩ := hB2.is 11
 have lr2_11 := hB2.lr 11 br2_11
 have ne2_9_10 := hB2.nb 9 10
 have ne2_9_11 := hB2.nb 9 11
 have ne2_10_11 := hB2.nb 10 11
 have k2_2 := kt hg2 2 k1_2
 have k2_6 := kt hg2 6 k1_6
 have k2_32 := kt hg2 32 r2_1
 have k2_37 := kt hg2 37 r2_6
 have k2_39 := kt hg2 39 r2_8
 have k2_7 := kt hg2 7 r2_9
 have k2_8 := kt hg2 8 r2_10
 have k2_9 := kt hg2 9 r2_11
 obtain ⟨W3, hW3⟩ : ∃ W', W' = W2.setRow (s2 9) #[.slice (some ⟨g1', 0, none⟩) (3) (c3'), .slice (some ⟨g2', 0, none⟩) (2) (c4')] := ⟨_, rfl⟩
 refine tail_skip (o := _) rfl ⟨rfl, rfl⟩ (run_seg hW3 (fr_ev k2_7) (fr_ev k2_32) br2_9 rfl rfl rfl rfl) ?_
 obtain ⟨fB3, nb3, ot3, z3⟩ := seg_facts hW3 fB2 br2_9 (by omega)
 clear hW3
 have b3_0 := ot3 _ _ (by first | assumption | exact Ne.symm (by assumption) | omega) b2_0
 have b3_2 := ot3 _ _ (by first | assumption | exact Ne.symm (by assumption) | omega) br2_10
 have b3_3 := ot3 _ _ (by first | assumption | exact Ne.symm (by assumption) | omega) br2_11
 have q25' := q5'.other ot3 (ownR_ne q5' br2_9) z3
 have q26' := q6'.other ot3 (ownR_ne q6' br2_9) z3
 have q27' := q13'.other ot3 (own_ne q13' br2_9) z3
 have q28' := q14'.other ot3 (own_ne q14' br2_9) z3
 have q29' := q15'.other ot3 (own_ne q15' br2_9) z3
 have q30' := q22'.other ot3 (own_ne q22' br2_9) z3
 have q31' := q23'.other ot3 (own_ne q23' br2_9) z3
 have q32' := q24'.other ot3 (own_ne q24' br2_9) z3
 obtain ⟨W4, hW4⟩ : ∃ W', W' = W3.setRow (s2 10) #[.int .i64 tb1, .slice (some ⟨g7', 0, none⟩) (4) (c10'), .int .i64 hh1, .slice (some ⟨g8', 0, none⟩) (2) (c11'), .slice (some ⟨g9', 0, none⟩) (2) (c12'), .int .i64 sl1, .bool false] := ⟨_, rfl⟩
 refine tail_skip (o := _) rfl ⟨rfl, rfl⟩ (run_seg hW4 (fr_ev k2_8) (fr_ev k2_37) b3_2 rfl rfl rfl rfl) ?_
 obtain ⟨fB4, nb4, ot4, z4⟩ := seg_facts hW4 fB3 b3_2 (by omega)
 clear hW4
 have b4_0 := ot4 _ _ (by first | assumption | exact Ne.symm (by assumption) | omega) b3_0
 have b4_1 := ot4 _ _ (by first | assumption | exact Ne.symm (by assumption) | omega) nb3
 have b4_3 := ot4 _ _ (by first | assumption | exact Ne.symm (by assumption) | omega) b3_3
 have q33' := q25'.other ot4 (ownR_ne q25' b3_2) z4
 have q34' := q26'.other ot4 (ownR_ne q26' b3_2) z4
 have q35' := q27'.other ot4 (own_ne q27' b3_2) z4
 have q36' := q28'.other ot4 (own_ne q28' b3_2) z4
 have q37' := q29'.other ot4 (own_ne q29' b3_2) z4
 have q38' := q30'.other ot4 (own_ne q30' b3_2) z4
 have q39' := q31'.other ot4 (own_ne q31' b3_2) z4
 have q40' := q32'.other ot4 (own_ne q32' b3_2) z4
 obtain ⟨W5, hW5⟩ : ∃ W', W' = W4.setRow (s2 11) #[.int .i64 tb2, .slice (some ⟨g16', 0, none⟩) (4) (c19'), .int .i64 hh2, .slice (some ⟨g17', 0, none⟩) (2) (c20'), .slice (some ⟨g18', 0, none⟩) (2) (c21'), .int .i64 sl2, .bool false] := ⟨_, rfl⟩
 refine tail_skip (o := _) rfl ⟨rfl, rfl⟩ (run_seg hW5 (fr_ev k2_9) (fr_ev k2_39) b4_3 rfl rfl rfl rfl) ?_
 obtain ⟨fB5, nb5, ot5, z5⟩ := seg_facts hW5 fB4 b4_3 (by omega)
 clear hW5
 have b5_0 := ot5 _ _ (by first | assumption | exact Ne.symm (by assumption) | omega) b4_0
 have b5_1 := ot5 _ _ (by first | assumption | exact Ne.symm (by assumption) | omega) b4_1
 have b5_2 := ot5 _ _ (by first | assumption | exact Ne.symm (by assumption) | omega) nb4
 have q41' := q33'.other ot5 (ownR_ne q33' b4_3) z5
 have q42' := q34'.other ot5 (ownR_ne q34' b4_3) z5
 have q43' := q35'.other ot5 (own_ne q35' b4_3) z5
 have q44' := q36'.other ot5 (own_ne q36' b4_3) z5
 have q45' := q37'.other ot5 (own_ne q37' b4_3) z5
 have q46' := q38'.other ot5 (own_ne q38' b4_3) z5
 have q47' := q39'.other ot5 (own_ne q39' b4_3) z5
 have q48' := q40'.other ot5 (own_ne q40' b4_3) z5
 refine wpOps_end ?_
 refine hK2 _ _ ?_
 refine wp_seq_k fun K3 hK3 => ?_
 as_aux_lemma =>
 refine region_dk 10 [(41, 0), (42, 1), (43, 2), (44, 3), (40, 4), (45, 5), (46, 6), (47, 7), (10, 8), (11, 9), (12, 12)] [[], [0], [0, 1], [0, 1, 2], [0, 1, 2, 3], [0, 1, 2, 3, 4], [0, 1, 2, 3, 4], [0, 1, 2, 3, 4], [], [], [0, 1, 2, 3, 4, 5, 8, 9], [0, 1, 2, 3, 4, 5, 6, 8, 9, 10], [0, 1, 2, 3, 4, 5, 6, 7, 8, 9, 10, 11]] (rel [is (.agg #[.slice (some ⟨g1', 0, none⟩) (3) (c3'), .slice (some ⟨g2', 0, none⟩) (2) (c4')]),
   ab fun v W => StoO 0 ps qs v W,
   ab fun v W => BoO 0 3 1 [0, 1, 2] [0] v W,
   is (.tuple #[.agg #[.int .i64 m1, .int .i64 m2], .agg #[.int .i64 ka, .int .i64 kb], .int .i64 0]),
   is (.tuple #[.agg #[.int .i64 m1, .int .i64 m2], .agg #[.int .i64 ka, .int .i64 kb], .int .i64 0]),
   is (.agg #[.int .i64 m1, .int .i64 m2]),
   is (.agg #[.int .i64 ka, .int .i64 kb]),
   is (.int .i64 0),
   bx 8 #[.int .i64 0, .int .i64 0] 40,
   bx 9 #[.int .i64 0, .int .i64 0] 40])
  ⟨is_k, ab_k fun v W W' hb h => h.below hb, ab_k fun v W W' hb h => h.below hb, is_k, is_k, is_k, is_k, is_k, bx_k, bx_k, trivial⟩
  ⟨fun f s W j k l m n a => opv rfl rfl (by simp [go_sem, a.e 7 k2_7, cl (blk_below b5_1 j) 0, cl (blk_below b5_1 j) 1]) rfl,
  fun f s W j k l m n a => opDo_call rfl rfl (by simp [go_sem, a.e 41 (k 0 rfl)]) (pubOwn_any ps qs (g1') 0 c3' (g2') 0 c4' W ((q41'.below j)).PaR3 ((q42'.below j)).FuR2) ((fun e W' h => by obtain ⟨v, e1, h1, h2⟩ := h; exact ⟨_, e1, h2, h1.low (Nat.zero_le _)⟩)),
  fun f s W j k l m n a => opDo_call rfl rfl (by simp [go_sem]) (pubSingle_any W) ((fun e W' h => by obtain ⟨v, e1, h1, h2⟩ := h; exact ⟨_, e1, h2, h1.low (Nat.zero_le _)⟩)),
  fun f s W j k l m n a => by obtain ⟨g49', c51', g50', c52', d1, q53', q54'⟩ := (k 1 rfl); obtain ⟨g55', c57', g56', c58', d2, q59', q60'⟩ := (k 2 rfl); exact opDo_call rfl rfl (by simp [go_sem, a.e 42 d1, a.e 43 d2]) (measure_s hI (g49') c51' (g50') c52' (g55') c57' (g56') c58' W q53'.PaR3 q54'.FuR2 q59'.ii q60'.ii) ((fun e W' h => by have h1 := h.1; rw [hm1, hm2, hka, hkb] at h1; exact ⟨_, h1, h.2, rfl⟩)),
  fun f s W j k l m n a => opv rfl rfl (by simp [go_sem, a.e 44 (k 3 rfl)]) rfl,
  fun f s W j k l m n a => opv rfl rfl (by simp [go_sem, a.e 40 (k 4 rfl)]) rfl,
  fun f s W j k l m n a => opv rfl rfl (by simp [go_sem, a.e 40 (k 4 rfl)]) rfl,
  fun f s W j k l m n a => opv rfl rfl (by simp [go_sem, a.e 40 (k 4 rfl)]) rfl,
  fun f s W j k l m n a => opb rfl rfl (by simp [go_sem]),
  fun f s W j k l m n a => opb rfl rfl (by simp [go_sem]), trivial⟩ ?_
 intro f6 s6 W6 hB6 g6 hg6
 have fB6 := hB6.f fB5
 have z6 := hB6.below.size
 have b6_0 := hB6.b b5_0
 have b6_1 := hB6.b b5_1
 have b6_2 := hB6.b b5_2
 have b6_3 := hB6.b nb5
 have q61' := (q41'.below hB6.below)
 have q62' := (q42'.below hB6.below)
 have q63' := (q43'.below hB6.below)
 have q64' := (q44'.below hB6.below)
 have q65' := (q45'.below hB6.below)
 have q66' := (q46'.below hB6.below)
 have q67' := (q47'.below hB6.below)
 have q68' := (q48'.below hB6.below)
 obtain ⟨r6_8, br6_8⟩ := hB6.is 8
 have lr6_8 := hB6.lr 8 br6_8
 obtain ⟨r6_9, br6_9⟩ := hB6.is 9
 have lr6_9 := hB6.lr 9 br6_9
 have ne6_8_9 := hB6.nb 8 9
 have k6_2 := kt hg6 2 k2_2
 have k6_6 := kt hg6 6 k2_6
 have k6_7 := kt hg6 7 k2_7
 have k6_8 := kt hg6 8 k2_8
 have k6_9 := kt hg6 9 k2_9
 have k6_45 := kt hg6 45 (hB6.is 5)
 have k6_46 := kt hg6 46 (hB6.is 6)
 have k6_47 := kt hg6 47 (hB6.is 7)
 have k6_10 := kt hg6 10 r6_8
 have k6_11 := kt hg6 11 r6_9
 obtain ⟨W7, hW7⟩ : ∃ W', W' = W6.setRow (s6 8) #[.int .i64 m1, .int .i64 m2] := ⟨_, rfl⟩
 refine tail_skip (o := _) rfl ⟨rfl, rfl⟩ (run_seg hW7 (fr_ev k6_10) (fr_ev k6_45) br6_8 rfl rfl rfl rfl) ?_
 obtain ⟨fB7, nb7, ot7, z7⟩ := seg_facts hW7 fB6 br6_8 (by omega)
 clear hW7
 have b7_0 := ot7 _ _ (by first | assumption | exact Ne.symm (by assumption) | omega) b6_0
 have b7_1 := ot7 _ _ (by first | assumption | exact Ne.symm (by assumption) | omega) b6_1
 have b7_2 := ot7 _ _ (by first | assumption | exact Ne.symm (by assumption) | omega) b6_2
 have b7_3 := ot7 _ _ (by first | assumption | exact Ne.symm (by assumption) | omega) b6_3
 have b7_5 := ot7 _ _ (by first | assumption | exact Ne.symm (by assumption) | omega) br6_9
 have q69' := q61'.other ot7 (ownR_ne q61' br6_8) z7
 have q70' := q62'.other ot7 (ownR_ne q62' br6_8) z7
 have q71' := q63'.other ot7 (own_ne q63' br6_8) z7
 have q72' := q64'.other ot7 (own_ne q64' br6_8) z7
 have q73' := q65'.other ot7 (own_ne q65' br6_8) z7
 have q74' := q66'.other ot7 (own_ne q66' br6_8) z7
 have q75' := q67'.other ot7 (own_ne q67' br6_8) z7
 have q76' := q68'.other ot7 (own_ne q68' br6_8) z7
 obtain ⟨W8, hW8⟩ : ∃ W', W' = W7.setRow (s6 9) #[.int .i64 ka, .int .i64 kb] := ⟨_, rfl⟩
 refine tail_skip (o := _) rfl ⟨rfl, rfl⟩ (run_seg hW8 (fr_ev k6_11) (fr_ev k6_46) b7_5 rfl rfl rfl rfl) ?_
 obtain ⟨fB8, nb8, ot8, z8⟩ := seg_facts hW8 fB7 b7_5 (by omega)
 clear hW8
 have b8_0 := ot8 _ _ (by first | assumption | exact Ne.symm (by assumption) | omega) b7_0
 have b8_1 := ot8 _ _ (by first | assumption | exact Ne.symm (by assumption) | omega) b7_1
 have b8_2 := ot8 _ _ (by first | assumption | exact Ne.symm (by assumption) | omega) b7_2
 have b8_3 := ot8 _ _ (by first | assumption | exact Ne.symm (by assumption) | omega) b7_3
 have b8_4 := ot8 _ _ (by first | assumption | exact Ne.symm (by assumption) | omega) nb7
 have q77' := q69'.other ot8 (ownR_ne q69' b7_5) z8
 have q78' := q70'.other ot8 (ownR_ne q70' b7_5) z8
 have q79' := q71'.other ot8 (own_ne q71' b7_5) z8
 have q80' := q72'.other ot8 (own_ne q72' b7_5) z8
 have q81' := q73'.other ot8 (own_ne q73' b7_5) z8
 have q82' := q74'.other ot8 (own_ne q74' b7_5) z8
 have q83' := q75'.other ot8 (own_ne q75' b7_5) z8
 have q84' := q76'.other ot8 (own_ne q76' b7_5) z8
 refine tail_value (o := _) rfl rfl rfl (v := .int .i64 0) (by simp [go_sem, frv 211 k6_47]) ?_
 generalize hg9 : upd g6 12 (.int .i64 0) = g9
 have k9_2 := ku hg9 2 k6_2
 have k9_6 := ku hg9 6 k6_6
 have k9_7 := ku hg9 7 k6_7
 have k9_8 := ku hg9 8 k6_8
 have k9_9 := ku hg9 9 k6_9
 have k9_11 := ku hg9 11 k6_11
 have k9_12 := kt hg9 12 (upd_same _ _ _)
 refine wpOps_end ?_
 refine hK3 _ _ ?_
 refine wp_seq_k fun K4 hK4 => ?_
 as_aux_lemma =>
 refine region_dk 10 [(49, 0), (50, 1), (51, 2), (52, 3), (48, 4), (53, 5), (54, 6), (55, 7), (13, 8), (14, 9), (15, 12)] [[], [0], [0, 1], [0, 1, 2], [0, 1, 2, 3], [0, 1, 2, 3, 4], [0, 1, 2, 3, 4], [0, 1, 2, 3, 4], [], [], [0, 1, 2, 3, 4, 5, 8, 9], [0, 1, 2, 3, 4, 5, 6, 8, 9, 10], [0, 1, 2, 3, 4, 5, 6, 7, 8, 9, 10, 11]] (rel [is (.agg #[.slice (some ⟨g1', 0, none⟩) (3) (c3'), .slice (some ⟨g2', 0, none⟩) (2) (c4')]),
   ab fun v W => StoO 0 ps qs v W,
   ab fun v W => BoO 0 5 2 [0, 1, 2, 1, 0] [0, 1] v W,
   is (.tuple #[.agg #[.int .i64 m3, .int .i64 m4], .agg #[.int .i64 kc, .int .i64 kd], .int .i64 0]),
   is (.tuple #[.agg #[.int .i64 m3, .int .i64 m4], .agg #[.int .i64 kc, .int .i64 kd], .int .i64 0]),
   is (.agg #[.int .i64 m3, .int .i64 m4]),
   is (.agg #[.int .i64 kc, .int .i64 kd]),
   is (.int .i64 0),
   bx 8 #[.int .i64 0, .int .i64 0] 40,
   bx 9 #[.int .i64 0, .int .i64 0] 40])
  ⟨is_k, ab_k fun v W W' hb h => h.below hb, ab_k fun v W W' hb h => h.below hb, is_k, is_k, is_k, is_k, is_k, bx_k, bx_k, trivial⟩
  ⟨fun f s W j k l m n a => opv rfl rfl (by simp [go_sem, a.e 7 k9_7, cl (blk_below b8_1 j) 0, cl (blk_below b8_1 j) 1]) rfl,
  fun f s W j k l m n a => opDo_call rfl rfl (by simp [go_sem, a.e 49 (k 0 rfl)]) (pubOwn_any ps qs (g1') 0 c3' (g2') 0 c4' W ((q77'.below j)).PaR3 ((q78'.below j)).FuR2) ((fun e W' h => by obtain ⟨v, e1, h1, h2⟩ := h; exact ⟨_, e1, h2, h1.low (Nat.zero_le _)⟩)),
  fun f s W j k l m n a => opDo_call rfl rfl (by simp [go_sem]) (pubDouble_any W) ((fun e W' h => by obtain ⟨v, e1, h1, h2⟩ := h; exact ⟨_, e1, h2, h1.low (Nat.zero_le _)⟩)),
  fun f s W j k l m n a => by obtain ⟨g85', c87', g86', c88', d1, q89', q90'⟩ := (k 1 rfl); obtain ⟨g91', c93', g92', c94', d2, q95', q96'⟩ := (k 2 rfl); exact opDo_call rfl rfl (by simp [go_sem, a.e 50 d1, a.e 51 d2]) (measure_d hI (g85') c87' (g86') c88' (g91') c93' (g92') c94' W q89'.PaR3 q90'.FuR2 q95'.ii q96'.ii) ((fun e W' h => by have h1 := h.1; rw [hm3, hm4, hkc, hkd] at h1; exact ⟨_, h1, h.2, rfl⟩)),
  fun f s W j k l m n a => opv rfl rfl (by simp [go_sem, a.e 52 (k 3 rfl)]) rfl,
  fun f s W j k l m n a => opv rfl rfl (by simp [go_sem, a.e 48 (k 4 rfl)]) rfl,
  fun f s W j k l m n a => opv rfl rfl (by simp [go_sem, a.e 48 (k 4 rfl)]) rfl,
  fun f s W j k l m n a => opv rfl rfl (by simp [go_sem, a.e 48 (k 4 rfl)]) rfl,
  fun f s W j k l m n a => opb rfl rfl (by simp [go_sem]),
  fun f s W j k l m n a => opb rfl rfl (by simp [go_sem]), trivial⟩ ?_
 intro f10 s10 W10 hB10 g10 hg10
 have fB10 := hB10.f fB8
 have z10 := hB10.below.size
 have b10_0 := hB10.b b8_0
 have b10_1 := hB10.b b8_1
 have b10_2 := hB10.b b8_2
 have b10_3 := hB10.b b8_3
 have b10_4 := hB10.b b8_4
 have b10_5 := hB10.b nb8
 have q97' := (q77'.below hB10.below)
 have q98' := (q78'.below hB10.below)
 have q99' := (q79'.below hB10.below)
 have q100' := (q80'.below hB10.below)
 have q101' := (q81'.below hB10.below)
 have q102' := (q82'.below hB10.below)
 have q103' := (q83'.below hB10.below)
 have q104' := (q84'.below hB10.below)
 obtain ⟨r10_8, br10_8⟩ := hB10.is 8
 have lr10_8 := hB10.lr 8 br10_8
 obtain ⟨r10_9, br10_9⟩ := hB10.is 9
 have lr10_9 := hB10.lr 9 br10_9
 have ne10_8_9 := hB10.nb 8 9
 have k10_2 := kt hg10 2 k9_2
 have k10_6 := kt hg10 6 k9_6
 have k10_7 := kt hg10 7 k9_7
 have k10_8 := kt hg10 8 k9_8
 have k10_9 := kt hg10 9 k9_9
 have k10_11 := kt hg10 11 k9_11
 have k10_12 := kt hg10 12 k9_12
 have k10_53 := kt hg10 53 (hB10.is 5)
 have k10_54 := kt hg10 54 (hB10.is 6)
 have k10_55 := kt hg10 55 (hB10.is 7)
 have k10_13 := kt hg10 13 r10_8
 have k10_14 := kt hg10 14 r10_9
 obtain ⟨W11, hW11⟩ : ∃ W', W' = W10.setRow (s10 8) #[.int .i64 m3, .int .i64 m4] := ⟨_, rfl⟩
 refine tail_skip (o := _) rfl ⟨rfl, rfl⟩ (run_seg hW11 (fr_ev k10_13) (fr_ev k10_53) br10_8 rfl rfl rfl rfl) ?_
 obtain ⟨fB11, nb11, ot11, z11⟩ := seg_facts hW11 fB10 br10_8 (by omega)
 clear hW11
 have b11_0 := ot11 _ _ (by first | assumption | exact Ne.symm (by assumption) | omega) b10_0
 have b11_1 := ot11 _ _ (by first | assumption | exact Ne.symm (by assumption) | omega) b10_1
 have b11_2 := ot11 _ _ (by first | assumption | exact Ne.symm (by assumption) | omega) b10_2
 have b11_3 := ot11 _ _ (by first | assumption | exact Ne.symm (by assumption) | omega) b10_3
 have b11_4 := ot11 _ _ (by first | assumption | exact Ne.symm (by assumption) | omega) b10_4
 have b11_5 := ot11 _ _ (by first | assumption | exact Ne.symm (by assumption) | omega) b10_5
 have b11_7 := ot11 _ _ (by first | assumption | exact Ne.symm (by assumption) | omega) br10_9
 have q105' := q97'.other ot11 (ownR_ne q97' br10_8) z11
 have q106' := q98'.other ot11 (ownR_ne q98' br10_8) z11
 have q107' := q99'.other ot11 (own_ne q99' br10_8) z11
 have q108' := q100'.other ot11 (own_ne q100' br10_8) z11
 have q109' := q101'.other ot11 (own_ne q101' br10_8) z11
 have q110' := q102'.other ot11 (own_ne q102' br10_8) z11
 have q111' := q103'.other ot11 (own_ne q103' br10_8) z11
 have q112' := q104'.other ot11 (own_ne q104' br10_8) z11
 obtain ⟨W12, hW12⟩ : ∃ W', W' = W11.setRow (s10 9) #[.int .i64 kc, .int .i64 kd] := ⟨_, rfl⟩
 refine tail_skip (o := _) rfl ⟨rfl, rfl⟩ (run_seg hW12 (fr_ev k10_14) (fr_ev k10_54) b11_7 rfl rfl rfl rfl) ?_
 obtain ⟨fB12, nb12, ot12, z12⟩ := seg_facts hW12 fB11 b11_7 (by omega)
 clear hW12
 have b12_0 := ot12 _ _ (by first | assumption | exact Ne.symm (by assumption) | omega) b11_0
 have b12_1 := ot12 _ _ (by first | assumption | exact Ne.symm (by assumption) | omega) b11_1
 have b12_2 := ot12 _ _ (by first | assumption | exact Ne.symm (by assumption) | omega) b11_2
 have b12_3 := ot12 _ _ (by first | assumption | exact Ne.symm (by assumption) | omega) b11_3
 have b12_4 := ot12 _ _ (by first | assumption | exact Ne.symm (by assumption) | omega) b11_4
 have b12_5 := ot12 _ _ (by first | assumption | exact Ne.symm (by assumption) | omega) b11_5
 have b12_6 := ot12 _ _ (by first | assumption | exact Ne.symm (by assumption) | omega) nb11
 have q113' := q105'.other ot12 (ownR_ne q105' b11_7) z12
 have q114' := q106'.other ot12 (ownR_ne q106' b11_7) z12
 have q115' := q107'.other ot12 (own_ne q107' b11_7) z12
 have q116' := q108'.other ot12 (own_ne q108' b11_7) z12
 have q117' := q109'.other ot12 (own_ne q109' b11_7) z12
 have q118' := q110'.other ot12 (own_ne q110' b11_7) z12
 have q119' := q111'.other ot12 (own_ne q111' b11_7) z12
 have q120' := q112'.other ot12 (own_ne q112' b11_7) z12
 refine tail_value (o := _) rfl rfl rfl (v := .int .i64 0) (by simp [go_sem, frv 211 k10_55]) ?_
 generalize hg13 : upd g10 15 (.int .i64 0) = g13
 have k13_2 := ku hg13 2 k10_2
 have k13_6 := ku hg13 6 k10_6
 have k13_7 := ku hg13 7 k10_7
 have k13_8 := ku hg13 8 k10_8
 have k13_9 := ku hg13 9 k10_9
 have k13_11 := ku hg13 11 k10_11
 have k13_12 := ku hg13 12 k10_12
 have k13_14 := ku hg13 14 k10_14
 have k13_15 := kt hg13 15 (upd_same _ _ _)
 refine wpOps_end ?_
 refine hK4 _ _ ?_
 refine wp_seq_k fun K5 hK5 => ?_
 as_aux_lemma =>
 refine region_dk 12 [(57, 0), (58, 1), (59, 2), (60, 3), (61, 4), (62, 5), (63, 6), (56, 7), (64, 8), (65, 9), (16, 10), (17, 11)] [[], [0], [], [0, 1, 2], [], [], [0, 1, 2, 3, 4, 5], [0, 1, 2, 3, 4, 5, 6], [0, 1, 2, 3, 4, 5, 6, 7], [0, 1, 2, 3, 4, 5, 6, 7], [0, 1, 2, 3, 4, 5, 6, 7, 8], [0, 1, 2, 3, 4, 5, 6, 7, 8, 9, 10]] (rel [is (.agg #[.int .i64 tb1, .slice (some ⟨g7', 0, none⟩) (4) (c10'), .int .i64 hh1, .slice (some ⟨g8', 0, none⟩) (2) (c11'), .slice (some ⟨g9', 0, none⟩) (2) (c12'), .int .i64 sl1, .bool false]),
   ab fun v W => NwBlk 0 (b1) v W,
   is (.agg #[.int .i64 tb2, .slice (some ⟨g16', 0, none⟩) (4) (c19'), .int .i64 hh2, .slice (some ⟨g17', 0, none⟩) (2) (c20'), .slice (some ⟨g18', 0, none⟩) (2) (c21'), .int .i64 sl2, .bool false]),
   ab fun v W => NwBlk 0 (b2) v W,
   is (.agg #[.int .i64 ka, .int .i64 kb]),
   is (.agg #[.int .i64 kc, .int .i64 kd]),
   ab fun v W => ∃ x0, v = .tuple #[x0, .int .i64 0] ∧ IsPp PL x0 W,
   ab fun v W => ∃ x0, v = .tuple #[x0, .int .i64 0] ∧ IsPp PL x0 W,
   ab fun v W => IsPp PL v W,
   is (.int .i64 0),
   ab fun v W => IsPp PL v W,
   is (.int .i64 0)])
  ⟨is_k, ab_k fun v W W' hb h => h.below hb, is_k, ab_k fun v W W' hb h => h.below hb, is_k, is_k, ab_k fun v W W' hb ⟨x0, e, h0⟩ => ⟨x0, e, h0.below hb⟩, ab_k fun v W W' hb ⟨x0, e, h0⟩ => ⟨x0, e, h0.below hb⟩, ab_k fun v W W' hb h => h.below hb, is_k, ab_k fun v W W' hb h => h.below hb, is_k, trivial⟩
  ⟨fun f s W j k l m n a => opl rfl rfl rfl (a.v 8 k13_8) (blk_below b12_2 j) Try.underlying37 rfl (by kernel_rfl) rfl,
  fun f s W j k l m n a => opDo_call (args := #[.agg #[.int .i64 tb1, .slice (some ⟨g7', 0, none⟩) (4) (c10'), .int .i64 hh1, .slice (some ⟨g8', 0, none⟩) (2) (c11'), .slice (some ⟨g9', 0, none⟩) (2) (c12'), .int .i64 sl1, .bool false]]) rfl rfl (by simp [go_sem, a.e 57 (k 0 rfl)]) (pubBlank_any _ _ _ _ _ _ (⟨tb1, [lg1, wd1, lg1, wd1], hh1, [fp1, fp1], [fp1, fq1], sl1, false⟩ : Bl) W ((q115'.below j)).ii ((q116'.below j)).ii ((q117'.below j)).ii (show 4 ≤ 1000 by decide) (show 2 ≤ 1000 by decide) (show 2 ≤ 1000 by decide)) ((fun e W' h => by obtain ⟨v, e1, h1, h2⟩ := h; rw [hb1] at h1; exact ⟨_, e1, h2, h1.low (Nat.zero_le _)⟩)),
  fun f s W j k l m n a => opl rfl rfl rfl (a.v 9 k13_9) (blk_below b12_3 j) Try.underlying37 rfl (by kernel_rfl) rfl,
  fun f s W j k l m n a => opDo_call (args := #[.agg #[.int .i64 tb2, .slice (some ⟨g16', 0, none⟩) (4) (c19'), .int .i64 hh2, .slice (some ⟨g17', 0, none⟩) (2) (c20'), .slice (some ⟨g18', 0, none⟩) (2) (c21'), .int .i64 sl2, .bool false]]) rfl rfl (by simp [go_sem, a.e 59 (k 2 rfl)]) (pubBlank_any _ _ _ _ _ _ (⟨tb2, [lg2, wd2, lg2, wd2], hh2, [fp2, fp2], [fp2, fq2], sl2, false⟩ : Bl) W ((q118'.below j)).ii ((q119'.below j)).ii ((q120'.below j)).ii (show 4 ≤ 1000 by decide) (show 2 ≤ 1000 by decide) (show 2 ≤ 1000 by decide)) ((fun e W' h => by obtain ⟨v, e1, h1, h2⟩ := h; rw [hb2] at h1; exact ⟨_, e1, h2, h1.low (Nat.zero_le _)⟩)),
  fun f s W j k l m n a => opv rfl rfl (by simp [go_sem, a.e 11 k13_11, cl (blk_below b12_5 j) 0, cl (blk_below b12_5 j) 1]) rfl,
  fun f s W j k l m n a => opv rfl rfl (by simp [go_sem, a.e 14 k13_14, cl (blk_below nb12 j) 0, cl (blk_below nb12 j) 1]) rfl,
  fun f s W j k l m n a => by obtain ⟨g121', c124', g122', c125', g123', c126', d1, ⟨q127', q129', q128'⟩, ⟨q130', q132', q131'⟩, ⟨q133', q135', q134'⟩⟩ := (k 1 rfl); obtain ⟨g136', c139', g137', c140', g138', c141', d3, ⟨q142', q144', q143'⟩, ⟨q145', q147', q146'⟩, ⟨q148', q150', q149'⟩⟩ := (k 3 rfl); exact opDo_call (args := #[.agg #[.int .i64 b1.tab, .slice (some ⟨g121', 0, none⟩) (b1.panels.length) (c124'), .int .i64 b1.height, .slice (some ⟨g122', 0, none⟩) (b1.top.length) (c125'), .slice (some ⟨g123', 0, none⟩) (b1.bottom.length) (c126'), .int .i64 b1.slot, .bool b1.isOpen], .agg #[.int .i64 b2.tab, .slice (some ⟨g136', 0, none⟩) (b2.panels.length) (c139'), .int .i64 b2.height, .slice (some ⟨g137', 0, none⟩) (b2.top.length) (c140'), .slice (some ⟨g138', 0, none⟩) (b2.bottom.length) (c141'), .int .i64 b2.slot, .bool b2.isOpen], .agg #[.int .i64 ka, .int .i64 kb], .agg #[.int .i64 kc, .int .i64 kd]]) rfl rfl (by simp [go_sem, a.e 58 d1, a.e 60 d3, a.e 61 (k 4 rfl), a.e 62 (k 5 rfl)]) (play_in (b := b1) (d := b2) (x1 := ka) (y1 := kb) (x2 := kc) (y2 := kd) (L := PL) W ⟨_, _, _, _, _, _, _, _, _, rfl, q127', q130', q133'⟩ ⟨_, _, _, _, _, _, _, _, _, rfl, q142', q145', q148'⟩ hck1 hck2 j1 j2 j3 j4 j5 j6 hPL) ((fun e W' h => by obtain ⟨x, e1, h1, h2⟩ := h; exact ⟨_, e1, h2, _, rfl, h1⟩)),
  fun f s W j k l m n a => opv (v := (f 6)) rfl rfl (by simp [go_sem, (a.at' 63 rfl : n.tmps[63]?.getD undef = f 6)] <;> rfl) (k 6 rfl),
  fun f s W j k l m n a => by obtain ⟨x7_0, d7, p7_0⟩ := (k 7 rfl); exact opv (v := x7_0) rfl rfl (by simp [go_sem, a.e 56 d7]) p7_0,
  fun f s W j k l m n a => by obtain ⟨x7_0, d7, p7_0⟩ := (k 7 rfl); exact opv rfl rfl (by simp [go_sem, a.e 56 d7]) rfl,
  fun f s W j k l m n a => opv (v := (f 8)) rfl rfl (by simp [go_sem, (a.at' 64 rfl : n.tmps[64]?.getD undef = f 8)] <;> rfl) (k 8 rfl),
  fun f s W j k l m n a => opv rfl rfl (by simp [go_sem, a.e 65 (k 9 rfl)]) rfl, trivial⟩ ?_
 intro f14 s14 W14 hB14 g14 hg14
 have fB14 := hB14.f fB12
 have z14 := hB14.below.size
 have b14_0 := hB14.b b12_0
 have b14_1 := hB14.b b12_1
 have b14_2 := hB14.b b12_2
 have b14_3 := hB14.b b12_3
 have b14_4 := hB14.b b12_4
 have b14_5 := hB14.b b12_5
 have b14_6 := hB14.b b12_6
 have b14_7 := hB14.b nb12
 have q154' := (q113'.below hB14.below)
 have q155' := (q114'.below hB14.below)
 have q156' := (q115'.below hB14.below)
 have q157' := (q116'.below hB14.below)
 have q158' := (q117'.below hB14.below)
 have q159' := (q118'.below hB14.below)
 have q160' := (q119'.below hB14.below)
 have q161' := (q120'.below hB14.below)
 obtain ⟨a162', c163', r14_10, q164'⟩ := hB14.is 10
 have lim165' := Pp.lim q164'
 refine hK5 _ _ ?_
 have k14_2 := kt hg14 2 k13_2
 have k14_6 := kt hg14 6 k13_6
 have k14_7 := kt hg14 7 k13_7
 have k14_8 := kt hg14 8 k13_8
 have k14_9 := kt hg14 9 k13_9
 have k14_11 := kt hg14 11 k13_11
 have k14_12 := kt hg14 12 k13_12
 have k14_14 := kt hg14 14 k13_14
 have k14_15 := kt hg14 15 k13_15
 have k14_16 := kt hg14 16 r14_10
 have k14_17 := kt hg14 17 (hB14.is 11)
 refine wp_seq_k fun K6 hK6 => ?_
 refine wp_seq_k fun K7 hK7 => ?_
 as_aux_lemma =>
 refine region_dk 15 [(66, 0), (67, 1), (68, 2), (69, 3), (70, 4), (71, 5), (72, 6), (73, 7), (74, 8), (75, 9), (76, 10), (77, 11), (78, 12), (79, 13), (80, 14)] [[], [0], [0, 1], [0, 1, 2], [0, 1, 2, 3], [0, 1, 2, 3, 4], [0, 1, 2, 3, 4, 5], [0, 1, 2, 3, 4, 5, 6], [0, 1, 2, 3, 4, 5, 6, 7], [0, 1, 2, 3, 4, 5, 6, 7, 8], [0, 1, 2, 3, 4, 5, 6, 7, 8, 9], [0, 1, 2, 3, 4, 5, 6, 7, 8, 9, 10], [0, 1, 2, 3, 4, 5, 6, 7, 8, 9, 10, 11], [0, 1, 2, 3, 4, 5, 6, 7, 8, 9, 10, 11, 12], [0, 1, 2, 3, 4, 5, 6, 7, 8, 9, 10, 11, 12, 13]] (rel [is (.int .i64 0),
   is (.bool false),
   is (.bool false),
   is (.int .i64 0),
   is (.bool false),
   is (.bool false),
   is (.bool false),
   is (.int .i64 0),
   is (.bool false),
   is (.bool false),
   is (.bool false),
   is (.slice (a162') (PL.length) (c163')),
   is (.int .i64 ((PL.length : Int))),
   is (.bool false),
   is (.bool false)])
  ⟨is_k, is_k, is_k, is_k, is_k, is_k, is_k, is_k, is_k, is_k, is_k, is_k, is_k, is_k, is_k, trivial⟩
  ⟨fun f s W j k l m n a => opv rfl rfl (by simp [go_sem, a.e 12 k14_12]) rfl,
  fun f s W j k l m n a => opv rfl rfl (by simp [go_sem, a.e 66 (k 0 rfl)]) rfl,
  fun f s W j k l m n a => opv rfl rfl (by simp [go_sem, a.e 67 (k 1 rfl)]) rfl,
  fun f s W j k l m n a => osure rfl rfl (a.says (d := 68) rfl rfl (k 2 rfl)) (gv (by simp [go_sem, a.e 15 k14_15]) rfl),
  fun f s W j k l m n a => osure rfl rfl (a.says (d := 68) rfl rfl (k 2 rfl)) (gv (by simp [go_sem, a.e 69 (k 3 rfl)]) rfl),
  fun f s W j k l m n a => opk (c := false) rfl rfl (fun _ => by simp [go_sem, a.e 68 (k 2 rfl), a.e 70 (k 4 rfl)]) (fun h => absurd h (by decide)),
  fun f s W j k l m n a => opv rfl rfl (by simp [go_sem, a.e 71 (k 5 rfl)]) rfl,
  fun f s W j k l m n a => osure rfl rfl (a.says (d := 72) rfl rfl (k 6 rfl)) (gv (by simp [go_sem, a.e 17 k14_17]) rfl),
  fun f s W j k l m n a => osure rfl rfl (a.says (d := 72) rfl rfl (k 6 rfl)) (gv (by simp [go_sem, a.e 73 (k 7 rfl)]) rfl),
  fun f s W j k l m n a => opk (c := false) rfl rfl (fun _ => by simp [go_sem, a.e 72 (k 6 rfl), a.e 74 (k 8 rfl)]) (fun h => absurd h (by decide)),
  fun f s W j k l m n a => opv rfl rfl (by simp [go_sem, a.e 75 (k 9 rfl)]) rfl,
  fun f s W j k l m n a => osure rfl rfl (a.says (d := 76) rfl rfl (k 10 rfl)) (gv (by simp [go_sem, a.e 16 k14_16]) rfl),
  fun f s W j k l m n a => osure rfl rfl (a.says (d := 76) rfl rfl (k 10 rfl)) (gv (by simp [go_sem, a.e 77 (k 11 rfl)]) rfl),
  fun f s W j k l m n a => osure rfl rfl (a.says (d := 76) rfl rfl (k 10 rfl)) (gv (by simp [go_sem, a.e 78 (k 12 rfl), hL4z]) rfl),
  fun f s W j k l m n a => opk (c := false) rfl rfl (fun _ => by simp [go_sem, a.e 76 (k 10 rfl), a.e 79 (k 13 rfl)]) (fun h => absurd h (by decide)), trivial⟩ ?_
 intro f15 s15 W15 hB15 g15 hg15
 have fB15 := hB15.f fB14
 have z15 := hB15.below.size
 have b15_0 := hB15.b b14_0
 have b15_1 := hB15.b b14_1
 have b15_2 := hB15.b b14_2
 have b15_3 := hB15.b b14_3
 have b15_4 := hB15.b b14_4
 have b15_5 := hB15.b b14_5
 have b15_6 := hB15.b b14_6
 have b15_7 := hB15.b b14_7
 have q166' := (q154'.below hB15.below)
 have q167' := (q155'.below hB15.below)
 have q168' := (q156'.below hB15.below)
 have q169' := (q157'.below hB15.below)
 have q170' := (q158'.below hB15.below)
 have q171' := (q159'.below hB15.below)
 have q172' := (q160'.below hB15.below)
 have q173' := (q161'.below hB15.below)
 have q174' := (q164'.bw hB15)
 refine hK7 _ _ ?_
 have k15_2 := kt hg15 2 k14_2
 have k15_6 := kt hg15 6 k14_6
 have k15_7 := kt hg15 7 k14_7
 have k15_8 := kt hg15 8 k14_8
 have k15_9 := kt hg15 9 k14_9
 have k15_11 := kt hg15 11 k14_11
 have k15_14 := kt hg15 14 k14_14
 have k15_16 := kt hg15 16 k14_16
 have k15_80 := kt hg15 80 (hB15.is 14)
 refine wp_cond_false ((fr_eval rfl).trans k15_80) ?_
 refine wp_skip ?_
 refine hK6 _ _ ?_
 refine wp_seq_k fun K9 hK9 => ?_
 as_aux_lemma =>
 refine region_dk 10 [(81, 0), (82, 1), (83, 2), (84, 3), (85, 4), (86, 5), (87, 6), (88, 7), (18, 8), (19, 9)] [[], [], [], [0, 1, 2], [], [0, 1, 2, 3], [], [0, 1, 2, 3, 4, 5, 6], [0, 1, 2, 3, 4, 5, 6, 7], [0, 1, 2, 3, 4, 5, 6, 7, 8]] (rel [is (.agg #[.slice (some ⟨g1', 0, none⟩) (3) (c3'), .slice (some ⟨g2', 0, none⟩) (2) (c4')]),
   ab fun v W => BoO 0 3 1 [0, 1, 2] [0] v W,
   is (.slice (ta) (tn) (tc)),
   is (.int .i64 ca),
   is (.agg #[.slice (some ⟨g1', 0, none⟩) (3) (c3'), .slice (some ⟨g2', 0, none⟩) (2) (c4')]),
   ab fun v W => BoO 0 5 2 [0, 1, 2, 1, 0] [0, 1] v W,
   is (.slice (ta) (tn) (tc)),
   is (.int .i64 cb),
   is (.int .i64 ca),
   is (.int .i64 cb)])
  ⟨is_k, ab_k fun v W W' hb h => h.below hb, is_k, is_k, is_k, ab_k fun v W W' hb h => h.below hb, is_k, is_k, is_k, is_k, trivial⟩
  ⟨fun f s W j k l m n a => opv rfl rfl (by simp [go_sem, a.e 7 k15_7, cl (blk_below b15_1 j) 0, cl (blk_below b15_1 j) 1]) rfl,
  fun f s W j k l m n a => opDo_call rfl rfl (by simp [go_sem]) (pubSingle_any W) ((fun e W' h => by obtain ⟨v, e1, h1, h2⟩ := h; exact ⟨_, e1, h2, h1.low (Nat.zero_le _)⟩)),
  fun f s W j k l m n a => opv rfl rfl (by simp [go_sem, a.e 2 k15_2]) rfl,
  fun f s W j k l m n a => by obtain ⟨g175', c177', g176', c178', d1, q179', q180'⟩ := (k 1 rfl); have p := below_trans fB15 j; exact opDo_call rfl rfl (by simp [go_sem, a.e 81 (k 0 rfl), a.e 82 d1, a.e 83 (k 2 rfl)]) (caliper_s hI (g1') c3' (g2') c4' (g175') c177' (g176') c178' W ((q166'.below j)).PaR3 ((q167'.below j)).FuR2 q179'.ii q180'.ii ta tn tc bs (hT.below p)) ((fun e W' h => by have h1 := h.1; rw [hca] at h1; exact ⟨_, h1, h.2, rfl⟩)),
  fun f s W j k l m n a => opv rfl rfl (by simp [go_sem, a.e 7 k15_7, cl (blk_below b15_1 j) 0, cl (blk_below b15_1 j) 1]) rfl,
  fun f s W j k l m n a => opDo_call rfl rfl (by simp [go_sem]) (pubDouble_any W) ((fun e W' h => by obtain ⟨v, e1, h1, h2⟩ := h; exact ⟨_, e1, h2, h1.low (Nat.zero_le _)⟩)),
  fun f s W j k l m n a => opv rfl rfl (by simp [go_sem, a.e 2 k15_2]) rfl,
  fun f s W j k l m n a => by obtain ⟨g181', c183', g182', c184', d5, q185', q186'⟩ := (k 5 rfl); have p := below_trans fB15 j; exact opDo_call rfl rfl (by simp [go_sem, a.e 85 (k 4 rfl), a.e 86 d5, a.e 87 (k 6 rfl)]) (caliper_d hI (g1') c3' (g2') c4' (g181') c183' (g182') c184' W ((q166'.below j)).PaR3 ((q167'.below j)).FuR2 q185'.ii q186'.ii ta tn tc bs (hT.below p)) ((fun e W' h => by have h1 := h.1; rw [hcb] at h1; exact ⟨_, h1, h.2, rfl⟩)),
  fun f s W j k l m n a => opv rfl rfl (by simp [go_sem, a.e 84 (k 3 rfl)]) rfl,
  fun f s W j k l m n a => opv rfl rfl (by simp [go_sem, a.e 88 (k 7 rfl)]) rfl, trivial⟩ ?_
 intro f16 s16 W16 hB16 g16 hg16
 have fB16 := hB16.f fB15
 have z16 := hB16.below.size
 have b16_0 := hB16.b b15_0
 have b16_1 := hB16.b b15_1
 have b16_2 := hB16.b b15_2
 have b16_3 := hB16.b b15_3
 have b16_4 := hB16.b b15_4
 have b16_5 := hB16.b b15_5
 have b16_6 := hB16.b b15_6
 have b16_7 := hB16.b b15_7
 have q187' := (q166'.below hB16.below)
 have q188' := (q167'.below hB16.below)
 have q189' := (q168'.below hB16.below)
 have q190' := (q169'.below hB16.below)
 have q191' := (q170'.below hB16.below)
 have q192' := (q171'.below hB16.below)
 have q193' := (q172'.below hB16.below)
 have q194' := (q173'.below hB16.below)
 have q195' := (q174'.bw hB16)
 refine hK9 _ _ ?_
 have k16_6 := kt hg16 6 k15_6
 have k16_8 := kt hg16 8 k15_8
 have k16_9 := kt hg16 9 k15_9
 have k16_11 := kt hg16 11 k15_11
 have k16_14 := kt hg16 14 k15_14
 have k16_16 := kt hg16 16 k15_16
 have k16_18 := kt hg16 18 (hB16.is 8)
 have k16_19 := kt hg16 19 (hB16.is 9)
 exact lid_main_c8 fv mv mo ps qs ta tn tc bs tb1 lg1 wd1 hh1 fp1 fq1 sl1 tb2 lg2 wd2 hh2 fp2 fq2 sl2 b1 b2 ka kb kc kd m1 m2 m3 m4 ca cb x0 x1 x2 P1 P2 sv1 pv1 sv2 lv hv PL w gmv hmo hst hbox1 hbox2 hI hb1 hb2 hck1 hck2 hT hm1 hm2 hka hkb hm3 hm4 hkc hkd hca hcb gca gcb j1 j2 j3 j4 j5 j6 hPL hn4 hPL4 hP1 hP2 hdd' hx0 hx1 hx2 gx0 gx1 gx2 hs2 hp2 hs1 hp1 gg1 gg2 gg3 gg4 gg5 gg6 hlo hhi hfin g16 W16 (s2 10) (s2 11) (s6 9) (s10 9) a162' c163' g1' c3' g2' c4' g7' c10' g8' c11' g9' c12' g16' c19' g17' c20' g18' c21' (s1 0) (s2 9) (s6 8) (s10 8) k16_6 k16_8 k16_9 k16_11 k16_14 k16_16 k16_18 k16_19 fB16 b16_0 b16_1 b16_2 b16_3 b16_4 b16_5 b16_6 b16_7 q187' q188' q189' q190' q191' q192' q193' q194' q195' (by omega) (by omega) (by omega) (by omega) (by omega) (by omega) (by omega) (by omega)
end Go.Proofs.Ytiocklgakklkpaa
