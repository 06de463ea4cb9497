/- Part of the proof: what the claim leans on. -/
import Derived.Test.YtiocklgakklkpaaTAY
set_option linter.unusedSimpArgs false
set_option linter.unusedVariables false
namespace Go.Proofs.Ytiocklgakklkpaa
open Go.RowKit
set_option maxRecDepth 100000 in
set_option maxHeartbeats 40000000 in
theorem thin_main (fv tv : Nat → Int) (ps : Nat → Pa) (qs : Nat → Fu) (tb lg wd hh fp fq sl : Int) (b : Bl) (ka kb kc kd m1 m2 m3 m4 : Int) (sa pa sc pd : Bool) (L9 M9 : List Sp) (w : World) (gtv : ∀ k, 0 ≤ tv k ∧ tv k ≤ 255) (hst : ∀ W, Calls Try.prog 6 #[.agg #[.int .u8 ((fv 0)), .int .u8 ((fv 1)), .int .u8 ((fv 2)), .int .u8 ((fv 3)), .int .u8 ((fv 4)), .int .u8 ((fv 5)), .int .u8 ((fv 6)), .int .u8 ((fv 7)), .int .u8 ((fv 8)), .int .u8 ((fv 9)), .int .u8 ((fv 10)), .int .u8 ((fv 11)), .int .u8 ((fv 12)), .int .u8 ((fv 13)), .int .u8 ((fv 14)), .int .u8 ((fv 15)), .int .u8 ((fv 16)), .int .u8 ((fv 17)), .int .u8 ((fv 18)), .int .u8 ((fv 19)), .int .u8 ((fv 20)), .int .u8 ((fv 21)), .int .u8 ((fv 22)), .int .u8 ((fv 23)), .int .u8 ((fv 24))]] W (StoOP ps qs W)) (hbox : ∀ W, Calls Try.prog 7 #[.agg #[.int .u8 ((fv 0)), .int .u8 ((fv 1)), .int .u8 ((fv 2)), .int .u8 ((fv 3)), .int .u8 ((fv 4)), .int .u8 ((fv 5)), .int .u8 ((fv 6)), .int .u8 ((fv 7)), .int .u8 ((fv 8)), .int .u8 ((fv 9)), .int .u8 ((fv 10)), .int .u8 ((fv 11)), .int .u8 ((fv 12)), .int .u8 ((fv 13)), .int .u8 ((fv 14)), .int .u8 ((fv 15)), .int .u8 ((fv 16)), .int .u8 ((fv 17)), .int .u8 ((fv 18)), .int .u8 ((fv 19)), .int .u8 ((fv 20)), .int .u8 ((fv 21)), .int .u8 ((fv 22)), .int .u8 ((fv 23)), .int .u8 ((fv 24))], .int .i64 0] W (BoxOP tb lg wd hh fp fq sl W)) (hI : FoldIn ps qs) (hb : (⟨tb, [lg, wd, lg, wd], hh, [fp, fp], [fp, fq], sl, false⟩ : Bl) = b) (hck : checkErr b = 0) (hm1 : w1S (o1 (ps 0)) (o1 (ps 1)) (o1 (ps 2)) (qs 0) = m1) (hm2 : w1S (o2 (ps 0)) (o2 (ps 1)) (o2 (ps 2)) (qs 0) = m2) (hka : lo1 ps qs = ka) (hkb : hi1 ps qs = kb) (hm3 : w2S (o1 (ps 0)) (o1 (ps 1)) (o1 (ps 2)) (qs 0) (qs 1) = m3) (hm4 : w2S (o2 (ps 0)) (o2 (ps 1)) (o2 (ps 2)) (qs 0) (qs 1) = m4) (hkc : lo2 ps qs = kc) (hkd : hi2 ps qs = kd) (j1 : 1 ≤ ka) (j2 : ka ≤ kb) (j3 : kb ≤ 10000) (j4 : 1 ≤ kc) (j5 : kc ≤ kd) (j6 : kd ≤ 10000) (e1 : ka ≤ kc) (e2 : kb ≤ kd) (e3 : m1 ≤ m3) (e4 : m2 ≤ m4) (hL9 : innerL b (ka, kb) 0 = L9) (hn9 : L9.length = 9) (hM9 : innerL b (kc, kd) 0 = M9) (hm9 : M9.length = 9) (hle9 : ∀ j, j < 9 → (nthP M9 j).1 ≤ (nthP L9 j).1 ∧ (nthP M9 j).2 ≤ (nthP L9 j).2) (gx0 : 0 ≤ tv 0 + 20 ∧ tv 0 + 20 ≤ 3000) (gx1 : 0 ≤ tv 1 + 20 ∧ tv 1 + 20 ≤ 3000) (gx2 : 0 ≤ tv 2 + 20 ∧ tv 2 + 20 ≤ 3000) (hsa : insideB b kb ((tv 0) + 20) ((tv 1) + 20) ((tv 2) + 20) = sa) (hpa : insideB b ka ((tv 0) + 20) ((tv 1) + 20) ((tv 2) + 20) = pa) (hsc : insideB b kd ((tv 0) + 20) ((tv 1) + 20) ((tv 2) + 20) = sc) (hpd : insideB b kc ((tv 0) + 20) ((tv 1) + 20) ((tv 2) + 20) = pd) (hfin : ((!sc || sa) && (!pd || pa) && (!sa || pa)) = true) :
  Calls Try.prog 5 #[.agg #[.int .u8 ((fv 0)), .int .u8 ((fv 1)), .int .u8 ((fv 2)), .int .u8 ((fv 3)), .int .u8 ((fv 4)), .int .u8 ((fv 5)), .int .u8 ((fv 6)), .int .u8 ((fv 7)), .int .u8 ((fv 8)), .int .u8 ((fv 9)), .int .u8 ((fv 10)), .int .u8 ((fv 11)), .int .u8 ((fv 12)), .int .u8 ((fv 13)), .int .u8 ((fv 14)), .int .u8 ((fv 15)), .int .u8 ((fv 16)), .int .u8 ((fv 17)), .int .u8 ((fv 18)), .int .u8 ((fv 19)), .int .u8 ((fv 20)), .int .u8 ((fv 21)), .int .u8 ((fv 22)), .int .u8 ((fv 23)), .int .u8 ((fv 24))], .agg #[.int .u8 ((tv 0)), .int .u8 ((tv 1)), .int .u8 ((tv 2))]] w (fun e w' => e = .returned (.bool true) ∧ Below w.heap.size w w') := by
 have hL9z : ((L9.length : Int) != 9) = false := by rw [hn9]; rfl
 have hM9z : ((M9.length : Int) != 9) = false := by rw [hm9]; rfl
 have hn1 := Int.not_lt.2 e1
 have hn2 := Int.not_lt.2 e2
 have hn3 := Int.not_lt.2 e3
 have hn4 := Int.not_lt.2 e4
 have gt0 := gtv 0
 have gt1 := gtv 1
 have gt2 := gtv 2
 refine calls_fr Try.func5 Try.ntmps5 rfl rfl fun g hg => ?_
 have k0 : g 0 = .agg #[.int .u8 ((fv 0)), .int .u8 ((fv 1)), .int .u8 ((fv 2)), .int .u8 ((fv 3)), .int .u8 ((fv 4)), .int .u8 ((fv 5)), .int .u8 ((fv 6)), .int .u8 ((fv 7)), .int .u8 ((fv 8)), .int .u8 ((fv 9)), .int .u8 ((fv 10)), .int .u8 ((fv 11)), .int .u8 ((fv 12)), .int .u8 ((fv 13)), .int .u8 ((fv 14)), .int .u8 ((fv 15)), .int .u8 ((fv 16)), .int .u8 ((fv 17)), .int .u8 ((fv 18)), .int .u8 ((fv 19)), .int .u8 ((fv 20)), .int .u8 ((fv 21)), .int .u8 ((fv 22)), .int .u8 ((fv 23)), .int .u8 ((fv 24))] := hg 0
 have k1 : g 1 = .agg #[.int .u8 ((tv 0)), .int .u8 ((tv 1)), .int .u8 ((tv 2))] := hg 1
 clear hg
 have fB0 : Below w.heap.size w w := Below.refl _ _
 refine wp_seq_k fun K1 hK1 => ?_
 as_aux_lemma =>
 refine region_dk 3 [(2, 0), (3, 1), (4, 2)] [[], [], []] (rel [bx 0 #[.int .u8 ((fv 0)), .int .u8 ((fv 1)), .int .u8 ((fv 2)), .int .u8 ((fv 3)), .int .u8 ((fv 4)), .int .u8 ((fv 5)), .int .u8 ((fv 6)), .int .u8 ((fv 7)), .int .u8 ((fv 8)), .int .u8 ((fv 9)), .int .u8 ((fv 10)), .int .u8 ((fv 11)), .int .u8 ((fv 12)), .int .u8 ((fv 13)), .int .u8 ((fv 14)), .int .u8 ((fv 15)), .int .u8 ((fv 16)), .int .u8 ((fv 17)), .int .u8 ((fv 18)), .int .u8 ((fv 19)), .int .u8 ((fv 20)), .int .u8 ((fv 21)), .int .u8 ((fv 22)), .int .u8 ((fv 23)), .int .u8 ((fv 24))] 28,
   bx 1 #[.int .u8 ((tv 0)), .int .u8 ((tv 1)), .int .u8 ((tv 2))] 24,
   is (.bool false)])
  ⟨bx_k, bx_k, is_k, trivial⟩
  ⟨fun f s W c d i l m a => opb rfl rfl (by simp [go_sem, a.e 0 k0]),
  fun f s W c d i l m a => opb rfl rfl (by simp [go_sem, a.e 1 k1]),
  fun f s W c d i l m a => opv rfl rfl (by simp [go_sem]) rfl, trivial⟩ ?_
 intro f1 s1 W1 hB1 g1 hg1
 have fB1 := hB1.f fB0
 have z1 := hB1.below.size
 obtain ⟨r1_0, br1_0⟩ := hB1.is 0
 have lr1_0 := hB1.lr 0 br1_0
 obtain ⟨r1_1, br1_1⟩ := hB1.is 1
 have lr1_1 := hB1.lr 1 br1_1
 have ne1_0_1 := hB1.nb 0 1
 refine hK1 _ _ ?_
 have k1_2 := kt hg1 2 r1_0
 have k1_3 := kt hg1 3 r1_1
 have k1_4 := kt hg1 4 (hB1.is 2)
 refine wp_seq_k fun K2 hK2 => ?_
 as_aux_lemma =>
 refine region_dk 6 [(25, 0), (26, 1), (27, 2), (28, 3), (5, 4), (6, 5)] [[], [0], [], [0, 1, 2], [], [], [0, 1, 2, 3, 4, 5], [0, 1, 2, 3, 4, 5, 6]] (rel [is (.agg #[.int .u8 ((fv 0)), .int .u8 ((fv 1)), .int .u8 ((fv 2)), .int .u8 ((fv 3)), .int .u8 ((fv 4)), .int .u8 ((fv 5)), .int .u8 ((fv 6)), .int .u8 ((fv 7)), .int .u8 ((fv 8)), .int .u8 ((fv 9)), .int .u8 ((fv 10)), .int .u8 ((fv 11)), .int .u8 ((fv 12)), .int .u8 ((fv 13)), .int .u8 ((fv 14)), .int .u8 ((fv 15)), .int .u8 ((fv 16)), .int .u8 ((fv 17)), .int .u8 ((fv 18)), .int .u8 ((fv 19)), .int .u8 ((fv 20)), .int .u8 ((fv 21)), .int .u8 ((fv 22)), .int .u8 ((fv 23)), .int .u8 ((fv 24))]),
   ab fun v W => StoO 0 ps qs v W,
   is (.agg #[.int .u8 ((fv 0)), .int .u8 ((fv 1)), .int .u8 ((fv 2)), .int .u8 ((fv 3)), .int .u8 ((fv 4)), .int .u8 ((fv 5)), .int .u8 ((fv 6)), .int .u8 ((fv 7)), .int .u8 ((fv 8)), .int .u8 ((fv 9)), .int .u8 ((fv 10)), .int .u8 ((fv 11)), .int .u8 ((fv 12)), .int .u8 ((fv 13)), .int .u8 ((fv 14)), .int .u8 ((fv 15)), .int .u8 ((fv 16)), .int .u8 ((fv 17)), .int .u8 ((fv 18)), .int .u8 ((fv 19)), .int .u8 ((fv 20)), .int .u8 ((fv 21)), .int .u8 ((fv 22)), .int .u8 ((fv 23)), .int .u8 ((fv 24))]),
   ab fun v W => BoxO 0 tb lg wd hh fp fq sl v W,
   bx 4 #[.slice (none) (0) (0), .slice (none) (0) (0)] 33,
   bx 5 #[.int .i64 0, .slice (none) (0) (0), .int .i64 0, .slice (none) (0) (0), .slice (none) (0) (0), .int .i64 0, .bool false] 37])
  ⟨is_k, ab_k fun v W W' hb h => h.below hb, is_k, ab_k fun v W W' hb h => h.below hb, bx_k, bx_k, trivial⟩
  ⟨fun f s W c d i l m a => opl rfl rfl rfl (a.v 2 k1_2) (blk_below br1_0 c) Try.underlying28 rfl (by kernel_rfl) rfl,
  fun f s W c d i l m a => opDo_call rfl rfl (by simp [go_sem, a.e 25 (d 0 rfl)]) (hst W) ((fun e W' h => by obtain ⟨v, e1, h1, h2⟩ := h; exact ⟨_, e1, h2, h1.low (Nat.zero_le _)⟩)),
  fun f s W c d i l m a => opl rfl rfl rfl (a.v 2 k1_2) (blk_below br1_0 c) Try.underlying28 rfl (by kernel_rfl) rfl,
  fun f s W c d i l m a => opDo_call rfl rfl (by simp [go_sem, a.e 27 (d 2 rfl)]) (hbox W) ((fun e W' h => by obtain ⟨v, e1, h1, h2⟩ := h; exact ⟨_, e1, h2, h1.low (Nat.zero_le _)⟩)),
  fun f s W c d i l m a => opb rfl rfl (by simp [go_sem]),
  fun f s W c d i l m a => opb rfl rfl (by simp [go_sem]), trivial⟩ ?_
 intro f2 s2 W2 hB2 g2 hg2
 have fB2 := hB2.f fB1
 have z2 := hB2.below.size
 have b2_0 := hB2.b br1_0
 have b2_1 := hB2.b br1_1
 obtain ⟨g1', c3', g2', c4', r2_1, q5', q6'⟩ := hB2.is 1
 obtain ⟨g7', c10', g8', c11', g9', c12', r2_3, q13', q14', q15'⟩ := hB2.is 3
 obtain ⟨r2_4, br2_4⟩ := hB2.is 4
 have lr2_4 := hB2.lr 4 br2_4
 obtain ⟨r2_5, br2_5⟩ := hB2.is 5
 have lr2_5 := hB2.lr 5 br2_5
 have ne2_4_5 := hB2.nb 4 5
 have k2_3 := kt hg2 3 k1_3
 have k2_4 := kt hg2 4 k1_4
 have k2_26 := kt hg2 26 r2_1
 have k2_28 := kt hg2 28 r2_3
 have k2_5 := kt hg2 5 r2_4
 have k2_6 := kt hg2 6 r2_5
 obtain ⟨W3, hW3⟩ : ∃ W', W' = W2.setRow (s2 4) #[.slice (some ⟨g1', 0, none⟩) (3) (c3'), .slice (some ⟨g2', 0, none⟩) (2) (c4')] := ⟨_, rfl⟩
 refine tail_skip (o := _) rfl ⟨rfl, rfl⟩ (run_seg hW3 (fr_ev k2_5) (fr_ev k2_26) br2_4 rfl rfl rfl rfl) ?_
 obtain ⟨fB3, nb3, ot3, z3⟩ := seg_facts hW3 fB2 br2_4 (by omega)
 clear hW3
 have b3_0 := ot3 _ _ (by first | assumption | exact Ne.symm (by assumption) | omega) b2_0
 have b3_1 := ot3 _ _ (by first | assumption | exact Ne.symm (by assumption) | omega) b2_1
 have b3_3 := ot3 _ _ (by first | assumption | exact Ne.symm (by assumption) | omega) br2_5
 have q16' := q5'.other ot3 (ownR_ne q5' br2_4) z3
 have q17' := q6'.other ot3 (ownR_ne q6' br2_4) z3
 have q18' := q13'.other ot3 (own_ne q13' br2_4) z3
 have q19' := q14'.other ot3 (own_ne q14' br2_4) z3
 have q20' := q15'.other ot3 (own_ne q15' br2_4) z3
 obtain ⟨W4, hW4⟩ : ∃ W', W' = W3.setRow (s2 5) #[.int .i64 tb, .slice (some ⟨g7', 0, none⟩) (4) (c10'), .int .i64 hh, .slice (some ⟨g8', 0, none⟩) (2) (c11'), .slice (some ⟨g9', 0, none⟩) (2) (c12'), .int .i64 sl, .bool false] := ⟨_, rfl⟩
 refine tail_skip (o := _) rfl ⟨rfl, rfl⟩ (run_seg hW4 (fr_ev k2_6) (fr_ev k2_28) b3_3 rfl rfl rfl rfl) ?_
 obtain ⟨fB4, nb4, ot4, z4⟩ := seg_facts hW4 fB3 b3_3 (by omega)
 clear hW4
 have b4_0 := ot4 _ _ (by first | assumption | exact Ne.symm (by assumption) | omega) b3_0
 have b4_1 := ot4 _ _ (by first | assumption | exact Ne.symm (by assumption) | omega) b3_1
 have b4_2 := ot4 _ _ (by first | assumption | exact Ne.symm (by assumption) | omega) nb3
 have q21' := q16'.other ot4 (ownR_ne q16' b3_3) z4
 have q22' := q17'.other ot4 (ownR_ne q17' b3_3) z4
 have q23' := q18'.other ot4 (own_ne q18' b3_3) z4
 have q24' := q19'.other ot4 (own_ne q19' b3_3) z4
 have q25' := q20'.other ot4 (own_ne q20' b3_3) z4
 refine wpOps_end ?_
 refine hK2 _ _ ?_
 refine wp_seq_k fun K3 hK3 => ?_
 as_aux_lemma =>
 refine region_dk 10 [(30, 0), (31, 1), (32, 2), (33, 3), (29, 4), (34, 5), (35, 6), (36, 7), (7, 8), (8, 9), (9, 12)] [[], [0], [0, 1], [0, 1, 2], [0, 1, 2, 3], [0, 1, 2, 3, 4], [0, 1, 2, 3, 4], [0, 1, 2, 3, 4], [], [], [0, 1, 2, 3, 4, 5, 8, 9], [0, 1, 2, 3, 4, 5, 6, 8, 9, 10], [0, 1, 2, 3, 4, 5, 6, 7, 8, 9, 10, 11]] (rel [is (.agg #[.slice (some ⟨g1', 0, none⟩) (3) (c3'), .slice (some ⟨g2', 0, none⟩) (2) (c4')]),
   ab fun v W => StoO 0 ps qs v W,
   ab fun v W => BoO 0 3 1 [0, 1, 2] [0] v W,
   is (.tuple #[.agg #[.int .i64 m1, .int .i64 m2], .agg #[.int .i64 ka, .int .i64 kb], .int .i64 0]),
   is (.tuple #[.agg #[.int .i64 m1, .int .i64 m2], .agg #[.int .i64 ka, .int .i64 kb], .int .i64 0]),
   is (.agg #[.int .i64 m1, .int .i64 m2]),
   is (.agg #[.int .i64 ka, .int .i64 kb]),
   is (.int .i64 0),
   bx 8 #[.int .i64 0, .int .i64 0] 40,
   bx 9 #[.int .i64 0, .int .i64 0] 40])
  ⟨is_k, ab_k fun v W W' hb h => h.below hb, ab_k fun v W W' hb h => h.below hb, is_k, is_k, is_k, is_k, is_k, bx_k, bx_k, trivial⟩
  ⟨fun f s W c d i l m a => opv rfl rfl (by simp [go_sem, a.e 5 k2_5, cb b4_2 c 0, cb b4_2 c 1]) rfl,
  fun f s W c d i l m a => opDo_call rfl rfl (by simp [go_sem, a.e 30 (d 0 rfl)]) (pubOwn_any ps qs (g1') 0 c3' (g2') 0 c4' W ((q21'.below c)).PaR3 ((q22'.below c)).FuR2) ((fun e W' h => by obtain ⟨v, e1, h1, h2⟩ := h; exact ⟨_, e1, h2, h1.low (Nat.zero_le _)⟩)),
  fun f s W c d i l m a => opDo_call rfl rfl (by simp [go_sem]) (pubSingle_any W) ((fun e W' h => by obtain ⟨v, e1, h1, h2⟩ := h; exact ⟨_, e1, h2, h1.low (Nat.zero_le _)⟩)),
  fun f s W c d i l m a => by obtain ⟨g26', c28', g27', c29', d1, q30', q31'⟩ := (d 1 rfl); obtain ⟨g32', c34', g33', c35', d2, q36', q37'⟩ := (d 2 rfl); exact opDo_call rfl rfl (by simp [go_sem, a.e 31 d1, a.e 32 d2]) (measure_s hI (g26') c28' (g27') c29' (g32') c34' (g33') c35' W q30'.PaR3 q31'.FuR2 q36'.ii q37'.ii) ((fun e W' h => by have h1 := h.1; rw [hm1, hm2, hka, hkb] at h1; exact ⟨_, h1, h.2, rfl⟩)),
  fun f s W c d i l m a => opv rfl rfl (by simp [go_sem, a.e 33 (d 3 rfl)]) rfl,
  fun f s W c d i l m a => opv rfl rfl (by simp [go_sem, a.e 29 (d 4 rfl)]) rfl,
  fun f s W c d i l m a => opv rfl rfl (by simp [go_sem, a.e 29 (d 4 rfl)]) rfl,
  fun f s W c d i l m a => opv rfl rfl (by simp [go_sem, a.e 29 (d 4 rfl)]) rfl,
  fun f s W c d i l m a => opb rfl rfl (by simp [go_sem]),
  fun f s W c d i l m a => opb rfl rfl (by simp [go_sem]), trivial⟩ ?_
 intro f5 s5 W5 hB5 g5 hg5
 have fB5 := hB5.f fB4
 have z5 := hB5.below.size
 have b5_0 := hB5.b b4_0
 have b5_1 := hB5.b b4_1
 have b5_2 := hB5.b b4_2
 have b5_3 := hB5.b nb4
 have q38' := (q21'.below hB5.below)
 have q39' := (q22'.below hB5.below)
 have q40' := (q23'.below hB5.below)
 have q41' := (q24'.below hB5.below)
 have q42' := (q25'.below hB5.below)
 obtain ⟨r5_8, br5_8⟩ := hB5.is 8
 have lr5_8 := hB5.lr 8 br5_8
 obtain ⟨r5_9, br5_9⟩ := hB5.is 9
 have lr5_9 := hB5.lr 9 br5_9
 have ne5_8_9 := hB5.nb 8 9
 have k5_3 := kt hg5 3 k2_3
 have k5_4 := kt hg5 4 k2_4
 have k5_5 := kt hg5 5 k2_5
 have k5_6 := kt hg5 6 k2_6
 have k5_34 := kt hg5 34 (hB5.is 5)
 have k5_35 := kt hg5 35 (hB5.is 6)
 have k5_36 := kt hg5 36 (hB5.is 7)
 have k5_7 := kt hg5 7 r5_8
 have k5_8 := kt hg5 8 r5_9
 obtain ⟨W6, hW6⟩ : ∃ W', W' = W5.setRow (s5 8) #[.int .i64 m1, .int .i64 m2] := ⟨_, rfl⟩
 refine tail_skip (o := _) rfl ⟨rfl, rfl⟩ (run_seg hW6 (fr_ev k5_7) (fr_ev k5_34) br5_8 rfl rfl rfl rfl) ?_
 obtain ⟨fB6, nb6, ot6, z6⟩ := seg_facts hW6 fB5 br5_8 (by omega)
 clear hW6
 have b6_0 := ot6 _ _ (by first | assumption | exact Ne.symm (by assumption) | omega) b5_0
 have b6_1 := ot6 _ _ (by first | assumption | exact Ne.symm (by assumption) | omega) b5_1
 have b6_2 := ot6 _ _ (by first | assumption | exact Ne.symm (by assumption) | omega) b5_2
 have b6_3 := ot6 _ _ (by first | assumption | exact Ne.symm (by assumption) | omega) b5_3
 have b6_5 := ot6 _ _ (by first | assumption | exact Ne.symm (by assumption) | omega) br5_9
 have q43' := q38'.other ot6 (ownR_ne q38' br5_8) z6
 have q44' := q39'.other ot6 (ownR_ne q39' br5_8) z6
 have q45' := q40'.other ot6 (own_ne q40' br5_8) z6
 have q46' := q41'.other ot6 (own_ne q41' br5_8) z6
 have q47' := q42'.other ot6 (own_ne q42' br5_8) z6
 obtain ⟨W7, hW7⟩ : ∃ W', W' = W6.setRow (s5 9) #[.int .i64 ka, .int .i64 kb] := ⟨_, rfl⟩
 refine tail_skip (o := _) rfl ⟨rfl, rfl⟩ (run_seg hW7 (fr_ev k5_8) (fr_ev k5_35) b6_5 rfl rfl rfl rfl) ?_
 obtain ⟨fB7, nb7, ot7, z7⟩ := seg_facts hW7 fB6 b6_5 (by omega)
 clear hW7
 have b7_0 := ot7 _ _ (by first | assumption | exact Ne.symm (by assumption) | omega) b6_0
 have b7_1 := ot7 _ _ (by first | assumption | exact Ne.symm (by assumption) | omega) b6_1
 have b7_2 := ot7 _ _ (by first | assumption | exact Ne.symm (by assumption) | omega) b6_2
 have b7_3 := ot7 _ _ (by first | assumption | exact Ne.symm (by assumption) | omega) b6_3
 have b7_4 := ot7 _ _ (by first | assumption | exact Ne.symm (by assumption) | omega) nb6
 have q48' := q43'.other ot7 (ownR_ne q43' b6_5) z7
 have q49' := q44'.other ot7 (ownR_ne q44' b6_5) z7
 have q50' := q45'.other ot7 (own_ne q45' b6_5) z7
 have q51' := q46'.other ot7 (own_ne q46' b6_5) z7
 have q52' := q47'.other ot7 (own_ne q47' b6_5) z7
 refine tail_value (o := _) rfl rfl rfl (v := .int .i64 0) (by simp [go_sem, frv 204 k5_36]) ?_
 generalize hg8 : upd g5 9 (.int .i64 0) = g8
 have k8_3 := ku hg8 3 k5_3
 have k8_4 := ku hg8 4 k5_4
 have k8_5 := ku hg8 5 k5_5
 have k8_6 := ku hg8 6 k5_6
 have k8_7 := ku hg8 7 k5_7
 have k8_8 := ku hg8 8 k5_8
 have k8_9 := kt hg8 9 (upd_same _ _ _)
 refine wpOps_end ?_
 refine hK3 _ _ ?_
 refine wp_seq_k fun K4 hK4 => ?_
 as_aux_lemma =>
 refine region_dk 10 [(38, 0), (39, 1), (40, 2), (41, 3), (37, 4), (42, 5), (43, 6), (44, 7), (10, 8), (11, 9), (12, 12)] [[], [0], [0, 1], [0, 1, 2], [0, 1, 2, 3], [0, 1, 2, 3, 4], [0, 1, 2, 3, 4], [0, 1, 2, 3, 4], [], [], [0, 1, 2, 3, 4, 5, 8, 9], [0, 1, 2, 3, 4, 5, 6, 8, 9, 10], [0, 1, 2, 3, 4, 5, 6, 7, 8, 9, 10, 11]] (rel [is (.agg #[.slice (some ⟨g1', 0, none⟩) (3) (c3'), .slice (some ⟨g2', 0, none⟩) (2) (c4')]),
   ab fun v W => StoO 0 ps qs v W,
   ab fun v W => BoO 0 5 2 [0, 1, 2, 1, 0] [0, 1] v W,
   is (.tuple #[.agg #[.int .i64 m3, .int .i64 m4], .agg #[.int .i64 kc, .int .i64 kd], .int .i64 0]),
   is (.tuple #[.agg #[.int .i64 m3, .int .i64 m4], .agg #[.int .i64 kc, .int .i64 kd], .int .i64 0]),
   is (.agg #[.int .i64 m3, .int .i64 m4]),
   is (.agg #[.int .i64 kc, .int .i64 kd]),
   is (.int .i64 0),
   bx 8 #[.int .i64 0, .int .i64 0] 40,
   bx 9 #[.int .i64 0, .int .i64 0] 40])
  ⟨is_k, ab_k fun v W W' hb h => h.below hb, ab_k fun v W W' hb h => h.below hb, is_k, is_k, is_k, is_k, is_k, bx_k, bx_k, trivial⟩
  ⟨fun f s W c d i l m a => opv rfl rfl (by simp [go_sem, a.e 5 k8_5, cb b7_2 c 0, cb b7_2 c 1]) rfl,
  fun f s W c d i l m a => opDo_call rfl rfl (by simp [go_sem, a.e 38 (d 0 rfl)]) (pubOwn_any ps qs (g1') 0 c3' (g2') 0 c4' W ((q48'.below c)).PaR3 ((q49'.below c)).FuR2) ((fun e W' h => by obtain ⟨v, e1, h1, h2⟩ := h; exact ⟨_, e1, h2, h1.low (Nat.zero_le _)⟩)),
  fun f s W c d i l m a => opDo_call rfl rfl (by simp [go_sem]) (pubDouble_any W) ((fun e W' h => by obtain ⟨v, e1, h1, h2⟩ := h; exact ⟨_, e1, h2, h1.low (Nat.zero_le _)⟩)),
  fun f s W c d i l m a => by obtain ⟨g53', c55', g54', c56', d1, q57', q58'⟩ := (d 1 rfl); obtain ⟨g59', c61', g60', c62', d2, q63', q64'⟩ := (d 2 rfl); exact opDo_call rfl rfl (by simp [go_sem, a.e 39 d1, a.e 40 d2]) (measure_d hI (g53') c55' (g54') c56' (g59') c61' (g60') c62' W q57'.PaR3 q58'.FuR2 q63'.ii q64'.ii) ((fun e W' h => by have h1 := h.1; rw [hm3, hm4, hkc, hkd] at h1; exact ⟨_, h1, h.2, rfl⟩)),
  fun f s W c d i l m a => opv rfl rfl (by simp [go_sem, a.e 41 (d 3 rfl)]) rfl,
  fun f s W c d i l m a => opv rfl rfl (by simp [go_sem, a.e 37 (d 4 rfl)]) rfl,
  fun f s W c d i l m a => opv rfl rfl (by simp [go_sem, a.e 37 (d 4 rfl)]) rfl,
  fun f s W c d i l m a => opv rfl rfl (by simp [go_sem, a.e 37 (d 4 rfl)]) rfl,
  fun f s W c d i l m a => opb rfl rfl (by simp [go_sem]),
  fun f s W c d i l m a => opb rfl rfl (by simp [go_sem]), trivial⟩ ?_
 intro f9 s9 W9 hB9 g9 hg9
 have fB9 := hB9.f fB7
 have z9 := hB9.below.size
 have b9_0 := hB9.b b7_0
 have b9_1 := hB9.b b7_1
 have b9_2 := hB9.b b7_2
 have b9_3 := hB9.b b7_3
 have b9_4 := hB9.b b7_4
 have b9_5 := hB9.b nb7
 have q65' := (q48'.below hB9.below)
 have q66' := (q49'.below hB9.below)
 have q67' := (q50'.below hB9.below)
 have q68' := (q51'.below hB9.below)
 have q69' := (q52'.below hB9.below)
 obtain ⟨r9_8, br9_8⟩ := hB9.is 8
 have lr9_8 := hB9.lr 8 br9_8
 obtain ⟨r9_9, br9_9⟩ := hB9.is 9
 have lr9_9 := hB9.lr 9 br9_9
 have ne9_8_9 := hB9.nb 8 9
 have k9_3 := kt hg9 3 k8_3
 have k9_4 := kt hg9 4 k8_4
 have k9_6 := kt hg9 6 k8_6
 have k9_7 := kt hg9 7 k8_7
 have k9_8 := kt hg9 8 k8_8
 have k9_9 := kt hg9 9 k8_9
 have k9_42 := kt hg9 42 (hB9.is 5)
 have k9_43 := kt hg9 43 (hB9.is 6)
 have k9_44 := kt hg9 44 (hB9.is 7)
 have k9_10 := kt hg9 10 r9_8
 have k9_11 := kt hg9 11 r9_9
 obtain ⟨W10, hW10⟩ : ∃ W', W' = W9.setRow (s9 8) #[.int .i64 m3, .int .i64 m4] := ⟨_, rfl⟩
 refine tail_skip (o := _) rfl ⟨rfl, rfl⟩ (run_seg hW10 (fr_ev k9_10) (fr_ev k9_42) br9_8 rfl rfl rfl rfl) ?_
 obtain ⟨fB10, nb10, ot10, z10⟩ := seg_facts hW10 fB9 br9_8 (by omega)
 clear hW10
 have b10_0 := ot10 _ _ (by first | assumption | exact Ne.symm (by assumption) | omega) b9_0
 have b10_1 := ot10 _ _ (by first | assumption | exact Ne.symm (by assumption) | omega) b9_1
 have b10_2 := ot10 _ _ (by first | assumption | exact Ne.symm (by assumption) | omega) b9_2
 have b10_3 := ot10 _ _ (by first | assumption | exact Ne.symm (by assumption) | omega) b9_3
 have b10_4 := ot10 _ _ (by first | assumption | exact Ne.symm (by assumption) | omega) b9_4
 have b10_5 := ot10 _ _ (by first | assumption | exact Ne.symm (by assumption) | omega) b9_5
 have b10_7 := ot10 _ _ (by first | assumption | exact Ne.symm (by assumption) | omega) br9_9
 have q70' := q65'.other ot10 (ownR_ne q65' br9_8) z10
 have q71' := q66'.other ot10 (ownR_ne q66' br9_8) z10
 have q72' := q67'.other ot10 (own_ne q67' br9_8) z10
 have q73' := q68'.other ot10 (own_ne q68' br9_8) z10
 have q74' := q69'.other ot10 (own_ne q69' br9_8) z10
 obtain ⟨W11, hW11⟩ : ∃ W', W' = W10.setRow (s9 9) #[.int .i64 kc, .int .i64 kd] := ⟨_, rfl⟩
 refine tail_skip (o := _) rfl ⟨rfl, rfl⟩ (run_seg hW11 (fr_ev k9_11) (fr_ev k9_43) b10_7 rfl rfl rfl rfl) ?_
 obtain ⟨fB11, nb11, ot11, z11⟩ := seg_facts hW11 fB10 b10_7 (by omega)
 clear hW11
 have b11_0 := ot11 _ _ (by first | assumption | exact Ne.symm (by assumption) | omega) b10_0
 have b11_1 := ot11 _ _ (by first | assumption | exact Ne.symm (by assumption) | omega) b10_1
 have b11_2 := ot11 _ _ (by first | assumption | exact Ne.symm (by assumption) | omega) b10_2
 have b11_3 := ot11 _ _ (by first | assumption | exact Ne.symm (by assumption) | omega) b10_3
 have b11_4 := ot11 _ _ (by first | assumption | exact Ne.symm (by assumption) | omega) b10_4
 have b11_5 := ot11 _ _ (by first | assumption | exact Ne.symm (by assumption) | omega) b10_5
 have b11_6 := ot11 _ _ (by first | assumption | exact Ne.symm (by assumption) | omega) nb10
 have q75' := q70'.other ot11 (ownR_ne q70' b10_7) z11
 have q76' := q71'.other ot11 (ownR_ne q71' b10_7) z11
 have q77' := q72'.other ot11 (own_ne q72' b10_7) z11
 have q78' := q73'.other ot11 (own_ne q73' b10_7) z11
 have q79' := q74'.other ot11 (own_ne q74' b10_7) z11
 refine tail_value (o := _) rfl rfl rfl (v := .int .i64 0) (by simp [go_sem, frv 204 k9_44]) ?_
 generalize hg12 : upd g9 12 (.int .i64 0) = g12
 have k12_3 := ku hg12 3 k9_3
 have k12_4 := ku hg12 4 k9_4
 have k12_6 := ku hg12 6 k9_6
 have k12_7 := ku hg12 7 k9_7
 have k12_8 := ku hg12 8 k9_8
 have k12_9 := ku hg12 9 k9_9
 have k12_10 := ku hg12 10 k9_10
 have k12_11 := ku hg12 11 k9_11
 have k12_12 := kt hg12 12 (upd_same _ _ _)
 refine wpOps_end ?_
 refine hK4 _ _ ?_
 refine wp_seq_k fun K5 hK5 => ?_
 as_aux_lemma =>
 refine region_dk 9 [(46, 0), (47, 1), (48, 2), (49, 3), (45, 4), (50, 5), (51, 6), (13, 7), (14, 8)] [[], [0], [], [0, 1, 2], [0, 1, 2, 3], [0, 1, 2, 3, 4], [0, 1, 2, 3, 4], [0, 1, 2, 3, 4, 5], [0, 1, 2, 3, 4, 5, 6, 7]] (rel [is (.agg #[.int .i64 tb, .slice (some ⟨g7', 0, none⟩) (4) (c10'), .int .i64 hh, .slice (some ⟨g8', 0, none⟩) (2) (c11'), .slice (some ⟨g9', 0, none⟩) (2) (c12'), .int .i64 sl, .bool false]),
   ab fun v W => NwBlk 0 (b) v W,
   is (.agg #[.int .i64 ka, .int .i64 kb]),
   ab fun v W => ∃ x0, v = .tuple #[x0, .int .i64 0] ∧ IsPp L9 x0 W,
   ab fun v W => ∃ x0, v = .tuple #[x0, .int .i64 0] ∧ IsPp L9 x0 W,
   ab fun v W => IsPp L9 v W,
   is (.int .i64 0),
   ab fun v W => IsPp L9 v W,
   is (.int .i64 0)])
  ⟨is_k, ab_k fun v W W' hb h => h.below hb, is_k, ab_k fun v W W' hb ⟨x0, e, h0⟩ => ⟨x0, e, h0.below hb⟩, ab_k fun v W W' hb ⟨x0, e, h0⟩ => ⟨x0, e, h0.below hb⟩, ab_k fun v W W' hb h => h.below hb, is_k, ab_k fun v W W' hb h => h.below hb, is_k, trivial⟩
  ⟨fun f s W c d i l m a => opl rfl rfl rfl (a.v 6 k12_6) (blk_below b11_3 c) Try.underlying37 rfl (by kernel_rfl) rfl,
  fun f s W c d i l m a => opDo_call (args := #[.agg #[.int .i64 tb, .slice (some ⟨g7', 0, none⟩) (4) (c10'), .int .i64 hh, .slice (some ⟨g8', 0, none⟩) (2) (c11'), .slice (some ⟨g9', 0, none⟩) (2) (c12'), .int .i64 sl, .bool false]]) rfl rfl (by simp [go_sem, a.e 46 (d 0 rfl)]) (pubBlank_any _ _ _ _ _ _ (⟨tb, [lg, wd, lg, wd], hh, [fp, fp], [fp, fq], sl, false⟩ : Bl) W ((q77'.below c)).ii ((q78'.below c)).ii ((q79'.below c)).ii (show 4 ≤ 1000 by decide) (show 2 ≤ 1000 by decide) (show 2 ≤ 1000 by decide)) ((fun e W' h => by obtain ⟨v, e1, h1, h2⟩ := h; rw [hb] at h1; exact ⟨_, e1, h2, h1.low (Nat.zero_le _)⟩)),
  fun f s W c d i l m a => opv rfl rfl (by simp [go_sem, a.e 8 k12_8, cb b11_5 c 0, cb b11_5 c 1]) rfl,
  fun f s W c d i l m a => by obtain ⟨g80', c83', g81', c84', g82', c85', d1, ⟨q86', q88', q87'⟩, ⟨q89', q91', q90'⟩, ⟨q92', q94', q93'⟩⟩ := (d 1 rfl); exact opDo_call (args := #[.agg #[.int .i64 b.tab, .slice (some ⟨g80', 0, none⟩) (b.panels.length) (c83'), .int .i64 b.height, .slice (some ⟨g81', 0, none⟩) (b.top.length) (c84'), .slice (some ⟨g82', 0, none⟩) (b.bottom.length) (c85'), .int .i64 b.slot, .bool b.isOpen], .agg #[.int .i64 ka, .int .i64 kb], .int .i64 0]) rfl rfl (by simp [go_sem, a.e 47 d1, a.e 48 (d 2 rfl)]) (inner_ok ka kb 0 W ⟨_, _, _, _, _, _, _, _, _, rfl, q86', q89', q92'⟩ hck j1 j2 j3 (by omega) (by omega)) ((fun e W' h => by obtain ⟨x, e1, h1, h2⟩ := h; rw [hL9] at h1; exact ⟨_, e1, h2, _, rfl, h1⟩)),
  fun f s W c d i l m a => opv (v := (f 3)) rfl rfl (by simp [go_sem, (a.at' 49 rfl : m.tmps[49]?.getD undef = f 3)] <;> rfl) (d 3 rfl),
  fun f s W c d i l m a => by obtain ⟨x4_0, d4, p4_0⟩ := (d 4 rfl); exact opv (v := x4_0) rfl rfl (by simp [go_sem, a.e 45 d4]) p4_0,
  fun f s W c d i l m a => by obtain ⟨x4_0, d4, p4_0⟩ := (d 4 rfl); exact opv rfl rfl (by simp [go_sem, a.e 45 d4]) rfl,
  fun f s W c d i l m a => opv (v := (f 5)) rfl rfl (by simp [go_sem, (a.at' 50 rfl : m.tmps[50]?.getD undef = f 5)] <;> rfl) (d 5 rfl),
  fun f s W c d i l m a => opv rfl rfl (by simp [go_sem, a.e 51 (d 6 rfl)]) rfl, trivial⟩ ?_
 intro f13 s13 W13 hB13 g13 hg13
 have fB13 := hB13.f fB11
 have z13 := hB13.below.size
 have b13_0 := hB13.b b11_0
 have b13_1 := hB13.b b11_1
 have b13_2 := hB13.b b11_2
 have b13_3 := hB13.b b11_3
 have b13_4 := hB13.b b11_4
 have b13_5 := hB13.b b11_5
 have b13_6 := hB13.b b11_6
 have b13_7 := hB13.b nb11
 have q98' := (q75'.below hB13.below)
 have q99' := (q76'.below hB13.below)
 have q100' := (q77'.below hB13.below)
 have q101' := (q78'.below hB13.below)
 have q102' := (q79'.below hB13.below)
 obtain ⟨a103', c104', r13_7, q105'⟩ := hB13.is 7
 have lim106' := Pp.lim q105'
 refine hK5 _ _ ?_
 have k13_3 := kt hg13 3 k12_3
 have k13_4 := kt hg13 4 k12_4
 have k13_6 := kt hg13 6 k12_6
 have k13_7 := kt hg13 7 k12_7
 have k13_8 := kt hg13 8 k12_8
 have k13_9 := kt hg13 9 k12_9
 have k13_10 := kt hg13 10 k12_10
 have k13_11 := kt hg13 11 k12_11
 have k13_12 := kt hg13 12 k12_12
 have k13_13 := kt hg13 13 r13_7
 have k13_14 := kt hg13 14 (hB13.is 8)
 refine wp_seq_k fun K6 hK6 => ?_
 as_aux_lemma =>
 refine region_dk 9 [(53, 0), (54, 1), (55, 2), (56, 3), (52, 4), (57, 5), (58, 6), (15, 7), (16, 8)] [[], [0], [], [0, 1, 2], [0, 1, 2, 3], [0, 1, 2, 3, 4], [0, 1, 2, 3, 4], [0, 1, 2, 3, 4, 5], [0, 1, 2, 3, 4, 5, 6, 7]] (rel [is (.agg #[.int .i64 tb, .slice (some ⟨g7', 0, none⟩) (4) (c10'), .int .i64 hh, .slice (some ⟨g8', 0, none⟩) (2) (c11'), .slice (some ⟨g9', 0, none⟩) (2) (c12'), .int .i64 sl, .bool false]),
   ab fun v W => NwBlk 0 (b) v W,
   is (.agg #[.int .i64 kc, .int .i64 kd]),
   ab fun v W => ∃ x0, v = .tuple #[x0, .int .i64 0] ∧ IsPp M9 x0 W,
   ab fun v W => ∃ x0, v = .tuple #[x0, .int .i64 0] ∧ IsPp M9 x0 W,
   ab fun v W => IsPp M9 v W,
   is (.int .i64 0),
   ab fun v W => IsPp M9 v W,
   is (.int .i64 0)])
  ⟨is_k, ab_k fun v W W' hb h => h.below hb, is_k, ab_k fun v W W' hb ⟨x0, e, h0⟩ => ⟨x0, e, h0.below hb⟩, ab_k fun v W W' hb ⟨x0, e, h0⟩ => ⟨x0, e, h0.below hb⟩, ab_k fun v W W' hb h => h.below hb, is_k, ab_k fun v W W' hb h => h.below hb, is_k, trivial⟩
  ⟨fun f s W c d i l m a => opl rfl rfl rfl (a.v 6 k13_6) (blk_below b13_3 c) Try.underlying37 rfl (by kernel_rfl) rfl,
  fun f s W c d i l m a => opDo_call (args := #[.agg #[.int .i64 tb, .slice (some ⟨g7', 0, none⟩) (4) (c10'), .int .i64 hh, .slice (some ⟨g8', 0, none⟩) (2) (c11'), .slice (some ⟨g9', 0, none⟩) (2) (c12'), .int .i64 sl, .bool false]]) rfl rfl (by simp [go_sem, a.e 53 (d 0 rfl)]) (pubBlank_any _ _ _ _ _ _ (⟨tb, [lg, wd, lg, wd], hh, [fp, fp], [fp, fq], sl, false⟩ : Bl) W ((q100'.below c)).ii ((q101'.below c)).ii ((q102'.below c)).ii (show 4 ≤ 1000 by decide) (show 2 ≤ 1000 by decide) (show 2 ≤ 1000 by decide)) ((fun e W' h => by obtain ⟨v, e1, h1, h2⟩ := h; rw [hb] at h1; exact ⟨_, e1, h2, h1.low (Nat.zero_le _)⟩)),
  fun f s W c d i l m a => opv rfl rfl (by simp [go_sem, a.e 11 k13_11, cb b13_7 c 0, cb b13_7 c 1]) rfl,
  fun f s W c d i l m a => by obtain ⟨g107', c110', g108', c111', g109', c112', d1, ⟨q113', q115', q114'⟩, ⟨q116', q118', q117'⟩, ⟨q119', q121', q120'⟩⟩ := (d 1 rfl); exact opDo_call (args := #[.agg #[.int .i64 b.tab, .slice (some ⟨g107', 0, none⟩) (b.panels.length) (c110'), .int .i64 b.height, .slice (some ⟨g108', 0, none⟩) (b.top.length) (c111'), .slice (some ⟨g109', 0, none⟩) (b.bottom.length) (c112'), .int .i64 b.slot, .bool b.isOpen], .agg #[.int .i64 kc, .int .i64 kd], .int .i64 0]) rfl rfl (by simp [go_sem, a.e 54 d1, a.e 55 (d 2 rfl)]) (inner_ok kc kd 0 W ⟨_, _, _, _, _, _, _, _, _, rfl, q113', q116', q119'⟩ hck j4 j5 j6 (by omega) (by omega)) ((fun e W' h => by obtain ⟨x, e1, h1, h2⟩ := h; rw [hM9] at h1; exact ⟨_, e1, h2, _, rfl, h1⟩)),
  fun f s W c d i l m a => opv (v := (f 3)) rfl rfl (by simp [go_sem, (a.at' 56 rfl : m.tmps[56]?.getD undef = f 3)] <;> rfl) (d 3 rfl),
  fun f s W c d i l m a => by obtain ⟨x4_0, d4, p4_0⟩ := (d 4 rfl); exact opv (v := x4_0) rfl rfl (by simp [go_sem, a.e 52 d4]) p4_0,
  fun f s W c d i l m a => by obtain ⟨x4_0, d4, p4_0⟩ := (d 4 rfl); exact opv rfl rfl (by simp [go_sem, a.e 52 d4]) rfl,
  fun f s W c d i l m a => opv (v := (f 5)) rfl rfl (by simp [go_sem, (a.at' 57 rfl : m.tmps[57]?.getD undef = f 5)] <;> rfl) (d 5 rfl),
  fun f s W c d i l m a => opv rfl rfl (by simp [go_sem, a.e 58 (d 6 rfl)]) rfl, trivial⟩ ?_
 intro f14 s14 W14 hB14 g14 hg14
 have fB14 := hB14.f fB13
 have z14 := hB14.below.size
 have b14_0 := hB14.b b13_0
 have b14_1 := hB14.b b13_1
 have b14_2 := hB14.b b13_2
 have b14_3 := hB14.b b13_3
 have b14_4 := hB14.b b13_4
 have b14_5 := hB14.b b13_5
 have b14_6 := hB14.b b13_6
 have b14_7 := hB14.b b13_7
 have q125' := (q98'.below hB14.below)
 have q126' := (q99'.below hB14.below)
 have q127' := (q100'.below hB14.below)
 have q128' := (q101'.below hB14.below)
 have q129' := (q102'.below hB14.below)
 have q130' := (q105'.bw hB14)
 obtain ⟨a131', c132', r14_7, q133'⟩ := hB14.is 7
 have lim134' := Pp.lim q133'
 refine hK6 _ _ ?_
 have k14_3 := kt hg14 3 k13_3
 have k14_4 := kt hg14 4 k13_4
 have k14_6 := kt hg14 6 k13_6
 have k14_7 := kt hg14 7 k13_7
 have k14_8 := kt hg14 8 k13_8
 have k14_9 := kt hg14 9 k13_9
 have k14_10 := kt hg14 10 k13_10
 have k14_11 := kt hg14 11 k13_11
 have k14_12 := kt hg14 12 k13_12
 have k14_13 := kt hg14 13 k13_13
 have k14_14 := kt hg14 14 k13_14
 have k14_15 := kt hg14 15 r14_7
 have k14_16 := kt hg14 16 (hB14.is 8)
 exact thin_main_c6 fv tv ps qs tb lg wd hh fp fq sl b ka kb kc kd m1 m2 m3 m4 sa pa sc pd L9 M9 w gtv hst hbox hI hb hck hm1 hm2 hka hkb hm3 hm4 hkc hkd j1 j2 j3 j4 j5 j6 e1 e2 e3 e4 hL9 hn9 hM9 hm9 hle9 gx0 gx1 gx2 hsa hpa hsc hpd hfin g14 W14 (s1 1) (s2 5) (s5 8) (s5 9) (s9 8) (s9 9) a103' c104' a131' c132' g1' c3' g2' c4' g7' c10' g8' c11' g9' c12' (s1 0) (s2 4) k14_3 k14_4 k14_6 k14_7 k14_8 k14_9 k14_10 k14_11 k14_12 k14_13 k14_14 k14_15 k14_16 fB14 b14_0 b14_1 b14_2 b14_3 b14_4 b14_5 b14_6 b14_7 q125' q126' q127' q128' q129' q130' q133' (by omega) (by omega) (by omega) (by omega) (by omega) (by omega) (by omega) (by omega)
end Go.Proofs.Ytiocklgakklkpaa
