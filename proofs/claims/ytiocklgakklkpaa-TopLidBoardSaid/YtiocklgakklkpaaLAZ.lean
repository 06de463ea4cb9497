/- Part of the proof: what the claim leans on. -/
import Derived.Test.YtiocklgakklkpaaLAY
set_option linter.unusedSimpArgs false
set_option linter.unusedVariables false
namespace Go.Proofs.Ytiocklgakklkpaa
open Go.RowKit
set_option maxRecDepth 100000 in
set_option maxHeartbeats 40000000 in
theorem lid_main_c8 (fv : Nat → Int) (mv mo : Int) (ps : Nat → Pa) (qs : Nat → Fu) (ta : Option Addr) (tn tc : Nat) (bs : Nat → Int) (tb1 lg1 wd1 hh1 fp1 fq1 sl1 tb2 lg2 wd2 hh2 fp2 fq2 sl2 : Int) (b1 b2 : Bl) (ka kb kc kd m1 m2 m3 m4 ca cb x0 x1 x2 P1 P2 : Int) (sv1 pv1 sv2 lv hv : Bool) (PL : List Sp) (w : World) (gmv : 0 ≤ mv ∧ mv ≤ 255) (hmo : mv % 40 = mo) (hst : ∀ W, Calls Try.prog 6 #[.agg #[.int .u8 ((fv 0)), .int .u8 ((fv 1)), .int .u8 ((fv 2)), .int .u8 ((fv 3)), .int .u8 ((fv 4)), .int .u8 ((fv 5)), .int .u8 ((fv 6)), .int .u8 ((fv 7)), .int .u8 ((fv 8)), .int .u8 ((fv 9)), .int .u8 ((fv 10)), .int .u8 ((fv 11)), .int .u8 ((fv 12)), .int .u8 ((fv 13)), .int .u8 ((fv 14)), .int .u8 ((fv 15)), .int .u8 ((fv 16)), .int .u8 ((fv 17)), .int .u8 ((fv 18)), .int .u8 ((fv 19)), .int .u8 ((fv 20)), .int .u8 ((fv 21)), .int .u8 ((fv 22)), .int .u8 ((fv 23)), .int .u8 ((fv 24))]] W (StoOP ps qs W)) (hbox1 : ∀ W, Calls Try.prog 7 #[.agg #[.int .u8 ((fv 0)), .int .u8 ((fv 1)), .int .u8 ((fv 2)), .int .u8 ((fv 3)), .int .u8 ((fv 4)), .int .u8 ((fv 5)), .int .u8 ((fv 6)), .int .u8 ((fv 7)), .int .u8 ((fv 8)), .int .u8 ((fv 9)), .int .u8 ((fv 10)), .int .u8 ((fv 11)), .int .u8 ((fv 12)), .int .u8 ((fv 13)), .int .u8 ((fv 14)), .int .u8 ((fv 15)), .int .u8 ((fv 16)), .int .u8 ((fv 17)), .int .u8 ((fv 18)), .int .u8 ((fv 19)), .int .u8 ((fv 20)), .int .u8 ((fv 21)), .int .u8 ((fv 22)), .int .u8 ((fv 23)), .int .u8 ((fv 24))], .int .i64 mo] W (BoxOP tb1 lg1 wd1 hh1 fp1 fq1 sl1 W)) (hbox2 : ∀ W, Calls Try.prog 7 #[.agg #[.int .u8 ((fv 0)), .int .u8 ((fv 1)), .int .u8 ((fv 2)), .int .u8 ((fv 3)), .int .u8 ((fv 4)), .int .u8 ((fv 5)), .int .u8 ((fv 6)), .int .u8 ((fv 7)), .int .u8 ((fv 8)), .int .u8 ((fv 9)), .int .u8 ((fv 10)), .int .u8 ((fv 11)), .int .u8 ((fv 12)), .int .u8 ((fv 13)), .int .u8 ((fv 14)), .int .u8 ((fv 15)), .int .u8 ((fv 16)), .int .u8 ((fv 17)), .int .u8 ((fv 18)), .int .u8 ((fv 19)), .int .u8 ((fv 20)), .int .u8 ((fv 21)), .int .u8 ((fv 22)), .int .u8 ((fv 23)), .int .u8 ((fv 24))], .int .i64 0] W (BoxOP tb2 lg2 wd2 hh2 fp2 fq2 sl2 W)) (hI : FoldIn ps qs) (hb1 : (⟨tb1, [lg1, wd1, lg1, wd1], hh1, [fp1, fp1], [fp1, fq1], sl1, false⟩ : Bl) = b1) (hb2 : (⟨tb2, [lg2, wd2, lg2, wd2], hh2, [fp2, fp2], [fp2, fq2], sl2, false⟩ : Bl) = b2) (hck1 : checkErr b1 = 0) (hck2 : checkErr b2 = 0) (hT : ByV w ta tn bs) (hm1 : w1S (o1 (ps 0)) (o1 (ps 1)) (o1 (ps 2)) (qs 0) = m1) (hm2 : w1S (o2 (ps 0)) (o2 (ps 1)) (o2 (ps 2)) (qs 0) = m2) (hka : lo1 ps qs = ka) (hkb : hi1 ps qs = kb) (hm3 : w2S (o1 (ps 0)) (o1 (ps 1)) (o1 (ps 2)) (qs 0) (qs 1) = m3) (hm4 : w2S (o2 (ps 0)) (o2 (ps 1)) (o2 (ps 2)) (qs 0) (qs 1) = m4) (hkc : lo2 ps qs = kc) (hkd : hi2 ps qs = kd) (hca : cal1 ps qs tn bs = ca) (hcb : cal2 ps qs tn bs = cb) (gca : ka ≤ ca ∧ ca ≤ kb) (gcb : kc ≤ cb ∧ cb ≤ kd) (j1 : 1 ≤ ka) (j2 : ka ≤ kb) (j3 : kb ≤ 10000) (j4 : 1 ≤ kc) (j5 : kc ≤ kd) (j6 : kd ≤ 10000) (hPL : playL b1 b2 (ka, kb) (kc, kd) = PL) (hn4 : PL.length = 4) (hPL4 : ∀ i, i < 4 → nthP PL i = (P1, P2)) (hP1 : 1000 * (lg1 - lg2) - kb - kd = P1) (hP2 : 1000 * (lg1 - lg2) - ka - kc = P2) (hdd' : lg1 - lg2 = wd1 - wd2) (hx0 : (1000 * lg2 - kc) / 1000 = x0) (hx1 : (1000 * wd2 - kc) / 1000 = x1) (hx2 : (1000 * hh2 - 2 * kc) / 1000 = x2) (gx0 : 0 ≤ x0 ∧ x0 ≤ 3000) (gx1 : 0 ≤ x1 ∧ x1 ≤ 3000) (gx2 : 0 ≤ x2 ∧ x2 ≤ 3000) (hs2 : insideB b2 kd x0 x1 x2 = sv2) (hp2 : insideB b2 kc x0 x1 x2 = true) (hs1 : insideB b1 kb x0 x1 x2 = sv1) (hp1 : insideB b1 ka x0 x1 x2 = pv1) (gg1 : 0 ≤ lg1 ∧ lg1 ≤ 3000) (gg2 : 0 ≤ wd1 ∧ wd1 ≤ 3000) (gg3 : 0 ≤ hh1 ∧ hh1 ≤ 3000) (gg4 : 40 ≤ lg2 ∧ lg2 ≤ 3000) (gg5 : 40 ≤ wd2 ∧ wd2 ≤ 3000) (gg6 : 40 ≤ hh2 ∧ hh2 ≤ 3000) (hlo : decide (0 ≤ P1) = lv) (hhi : decide (1000 * x2 ≤ 1000 * hh1 - 2 * kb) = hv) (hfin : (!lv || !hv || sv1) = true) (g_ : Nat → Value) (W_ : World) (bk0 : Nat) (bk1 : Nat) (bk2 : Nat) (bk3 : Nat) (a162' : Option Addr) (c163' : Nat) (g1' : Nat) (c3' : Nat) (g2' : Nat) (c4' : Nat) (g7' : Nat) (c10' : Nat) (g8' : Nat) (c11' : Nat) (g9' : Nat) (c12' : Nat) (g16' : Nat) (c19' : Nat) (g17' : Nat) (c20' : Nat) (g18' : Nat) (c21' : Nat) (bk4 : Nat) (bk5 : Nat) (bk6 : Nat) (bk7 : Nat)  (k_6 : g_ 6 = .bool false) (k_8 : g_ 8 = .pointer (some ⟨bk0, 0, none⟩)) (k_9 : g_ 9 = .pointer (some ⟨bk1, 0, none⟩)) (k_11 : g_ 11 = .pointer (some ⟨bk2, 0, none⟩)) (k_14 : g_ 14 = .pointer (some ⟨bk3, 0, none⟩)) (k_16 : g_ 16 = .slice (a162') (PL.length) (c163')) (k_18 : g_ 18 = .int .i64 ca) (k_19 : g_ 19 = .int .i64 cb) (fB_ : Below w.heap.size w W_) (bl_0 : W_.heap[bk4]? = some (.cells #[.int .u8 ((fv 0)), .int .u8 ((fv 1)), .int .u8 ((fv 2)), .int .u8 ((fv 3)), .int .u8 ((fv 4)), .int .u8 ((fv 5)), .int .u8 ((fv 6)), .int .u8 ((fv 7)), .int .u8 ((fv 8)), .int .u8 ((fv 9)), .int .u8 ((fv 10)), .int .u8 ((fv 11)), .int .u8 ((fv 12)), .int .u8 ((fv 13)), .int .u8 ((fv 14)), .int .u8 ((fv 15)), .int .u8 ((fv 16)), .int .u8 ((fv 17)), .int .u8 ((fv 18)), .int .u8 ((fv 19)), .int .u8 ((fv 20)), .int .u8 ((fv 21)), .int .u8 ((fv 22)), .int .u8 ((fv 23)), .int .u8 ((fv 24))] 28 (0, 0))) (bl_1 : W_.heap[bk5]? = some (.cells #[.slice (some ⟨g1', 0, none⟩) (3) (c3'), .slice (some ⟨g2', 0, none⟩) (2) (c4')] 33 (0, 0))) (bl_2 : W_.heap[bk0]? = some (.cells #[.int .i64 tb1, .slice (some ⟨g7', 0, none⟩) (4) (c10'), .int .i64 hh1, .slice (some ⟨g8', 0, none⟩) (2) (c11'), .slice (some ⟨g9', 0, none⟩) (2) (c12'), .int .i64 sl1, .bool false] 37 (0, 0))) (bl_3 : W_.heap[bk1]? = some (.cells #[.int .i64 tb2, .slice (some ⟨g16', 0, none⟩) (4) (c19'), .int .i64 hh2, .slice (some ⟨g17', 0, none⟩) (2) (c20'), .slice (some ⟨g18', 0, none⟩) (2) (c21'), .int .i64 sl2, .bool false] 37 (0, 0))) (bl_4 : W_.heap[bk6]? = some (.cells #[.int .i64 m1, .int .i64 m2] 40 (0, 0))) (bl_5 : W_.heap[bk2]? = some (.cells #[.int .i64 ka, .int .i64 kb] 40 (0, 0))) (bl_6 : W_.heap[bk7]? = some (.cells #[.int .i64 m3, .int .i64 m4] 40 (0, 0))) (bl_7 : W_.heap[bk3]? = some (.cells #[.int .i64 kc, .int .i64 kd] 40 (0, 0))) (ft_0 : OwnR 68 8 0 3 (paCells3 ps) g1' c3' W_) (ft_1 : OwnR 70 4 0 2 (fuCells2 qs) g2' c4' W_) (ft_2 : OwnI 0 ([lg1, wd1, lg1, wd1]) g7' c10' W_) (ft_3 : OwnI 0 ([fp1, fp1]) g8' c11' W_) (ft_4 : OwnI 0 ([fp1, fq1]) g9' c12' W_) (ft_5 : OwnI 0 ([lg2, wd2, lg2, wd2]) g16' c19' W_) (ft_6 : OwnI 0 ([fp2, fp2]) g17' c20' W_) (ft_7 : OwnI 0 ([fp2, fq2]) g18' c21' W_) (ft_8 : Pp W_ a162' PL.length c163' PL) (lw_bk4 : w.heap.size ≤ bk4) (lw_bk5 : w.heap.size ≤ bk5) (lw_bk0 : w.heap.size ≤ bk0) (lw_bk1 : w.heap.size ≤ bk1) (lw_bk6 : w.heap.size ≤ bk6) (lw_bk2 : w.heap.size ≤ bk2) (lw_bk7 : w.heap.size ≤ bk7) (lw_bk3 : w.heap.size ≤ bk3) :
  (tailC 7 (bodyC Try.f3)).wp Try.prog (bodyPost Try.prog Try.f3 (fun e w' => e = .returned (.bool true) ∧ Below w.heap.size w w')) (fr 211 g_) W_ := by
 have hL4z : ((PL.length : Int) != 4) = false := by rw [hn4]; rfl
 have gmo : 0 ≤ mo ∧ mo ≤ 39 := by omega
 have lt_bk4 := lt_of_blk bl_0
 have lt_bk5 := lt_of_blk bl_1
 have lt_bk0 := lt_of_blk bl_2
 have lt_bk1 := lt_of_blk bl_3
 have lt_bk6 := lt_of_blk bl_4
 have lt_bk2 := lt_of_blk bl_5
 have lt_bk7 := lt_of_blk bl_6
 have lt_bk3 := lt_of_blk bl_7
 have lo_ft_2 := ft_2.lim
 have lo_ft_3 := ft_3.lim
 have lo_ft_4 := ft_4.lim
 have lo_ft_5 := ft_5.lim
 have lo_ft_6 := ft_6.lim
 have lo_ft_7 := ft_7.lim
 have lim196' := Pp.lim ft_8
 refine wp_seq_k fun K10 hK10 => ?_
 as_aux_lemma =>
 refine region_dk 1 [(20, 0)] [[]] (rel [is (.bool true)])
  ⟨is_k, trivial⟩
  ⟨fun f s W g j k l m a => opv rfl rfl (by simp [go_sem]) rfl, trivial⟩ ?_
 intro f17 s17 W17 hB17 g17 hg17
 have fB17 := hB17.f fB_
 have z17 := hB17.below.size
 have b17_0 := hB17.b bl_0
 have b17_1 := hB17.b bl_1
 have b17_2 := hB17.b bl_2
 have b17_3 := hB17.b bl_3
 have b17_4 := hB17.b bl_4
 have b17_5 := hB17.b bl_5
 have b17_6 := hB17.b bl_6
 have b17_7 := hB17.b bl_7
 have q197' := (ft_0.below hB17.below)
 have q198' := (ft_1.below hB17.below)
 have q199' := (ft_2.below hB17.below)
 have q200' := (ft_3.below hB17.below)
 have q201' := (ft_4.below hB17.below)
 have q202' := (ft_5.below hB17.below)
 have q203' := (ft_6.below hB17.below)
 have q204' := (ft_7.below hB17.below)
 have q205' := (ft_8.bw hB17)
 refine hK10 _ _ ?_
 have k17_6 := kt hg17 6 k_6
 have k17_8 := kt hg17 8 k_8
 have k17_9 := kt hg17 9 k_9
 have k17_11 := kt hg17 11 k_11
 have k17_14 := kt hg17 14 k_14
 have k17_16 := kt hg17 16 k_16
 have k17_18 := kt hg17 18 k_18
 have k17_19 := kt hg17 19 k_19
 have k17_20 := kt hg17 20 (hB17.is 0)
 obtain ⟨bq, oq, hab⟩ := q205'.at' (by omega)
 have fA18 : Below W17.heap.size W17 W17 := Below.refl _ _
 refine wp_seq_k fun K11 hK11 => ?_
 refine wp_seq_k fun K12 hK12 => ?_
 as_aux_lemma =>
 refine region_dk 1 [(21, 0)] [[]] (rel [is (.int .i64 0)])
  ⟨is_k, trivial⟩
  ⟨fun f s W g j k l m a => opv rfl rfl (by simp [go_sem]) rfl, trivial⟩ ?_
 intro f19 s19 W19 hB19 g19 hg19
 have fB19 := hB19.f fB17
 have z19 := hB19.below.size
 have fA19 := hB19.f fA18
 refine hK12 _ _ ?_
 have k19_6 := kt hg19 6 k17_6
 have k19_8 := kt hg19 8 k17_8
 have k19_9 := kt hg19 9 k17_9
 have k19_11 := kt hg19 11 k17_11
 have k19_14 := kt hg19 14 k17_14
 have k19_16 := kt hg19 16 k17_16
 have k19_18 := kt hg19 18 k17_18
 have k19_19 := kt hg19 19 k17_19
 have k19_20 := kt hg19 20 k17_20
 have k19_21 := kt hg19 21 (hB19.is 0)
 refine wp_block ?_
 refine wp_loop_rounds 5 ?_
 rw [rounds_succ]
 refine wp_seq_k fun K13 hK13 => ?_
 refine wp_seq_k fun K14 hK14 => ?_
 as_aux_lemma =>
 refine region_dk 2 [(89, 0), (90, 1)] [[], [0]] (rel [is (.int .i64 0),
   is (.bool true)])
  ⟨is_k, is_k, trivial⟩
  ⟨fun f s W g j k l m a => opv rfl rfl (by simp [go_sem, a.e 21 k19_21]) rfl,
  fun f s W g j k l m a => opv rfl rfl (by simp [go_sem, a.e 89 (j 0 rfl)]) rfl, trivial⟩ ?_
 intro f20 s20 W20 hB20 g20 hg20
 have fB20 := hB20.f fB19
 have z20 := hB20.below.size
 have fA20 := hB20.f fA19
 refine hK14 _ _ ?_
 have k20_6 := kt hg20 6 k19_6
 have k20_8 := kt hg20 8 k19_8
 have k20_9 := kt hg20 9 k19_9
 have k20_11 := kt hg20 11 k19_11
 have k20_14 := kt hg20 14 k19_14
 have k20_16 := kt hg20 16 k19_16
 have k20_18 := kt hg20 18 k19_18
 have k20_19 := kt hg20 19 k19_19
 have k20_20 := kt hg20 20 k19_20
 have k20_21 := kt hg20 21 k19_21
 have k20_90 := kt hg20 90 (hB20.is 1)
 refine wp_cond_true ((fr_eval rfl).trans k20_90) ?_
 refine wp_skip ?_
 refine hK13 _ _ ?_
 refine wp_seq_k fun K16 hK16 => ?_
 refine wp_block ?_
 refine wp_seq_k fun K17 hK17 => ?_
 refine wp_seq_k fun K18 hK18 => ?_
 as_aux_lemma =>
 refine region_dk 18 [(93, 0), (94, 1), (95, 2), (96, 3), (97, 4), (98, 5), (99, 6), (100, 7), (101, 8), (102, 9), (103, 10), (104, 11), (105, 12), (106, 13), (107, 14), (108, 15), (109, 16), (22, 17)] [[], [0], [], [0, 1, 2], [0, 1, 2, 3], [0, 1, 2, 3, 4], [], [0, 1, 2, 3, 4, 5, 6], [], [8], [], [8, 9, 10], [8, 9, 10, 11], [8, 9, 10, 11, 12], [], [8, 9, 10, 11, 12, 13, 14], [0, 1, 2, 3, 4, 5, 6, 7, 8, 9, 10, 11, 12, 13, 14, 15], [0, 1, 2, 3, 4, 5, 6, 7, 8, 9, 10, 11, 12, 13, 14, 15, 16]] (rel [is (.pointer (some ⟨bk0, 1, none⟩)),
   is (.slice (some ⟨g7', 0, none⟩) (4) (c10')),
   is (.int .i64 0),
   is (.pointer (some ⟨g7', 0, none⟩)),
   is (.int .i64 lg1),
   is (.int .i64 (1000 * lg1)),
   is (.int .i64 ca),
   is (.int .i64 ((1000 * lg1) - ca)),
   is (.pointer (some ⟨bk1, 1, none⟩)),
   is (.slice (some ⟨g16', 0, none⟩) (4) (c19')),
   is (.int .i64 0),
   is (.pointer (some ⟨g16', 0, none⟩)),
   is (.int .i64 lg2),
   is (.int .i64 (1000 * lg2)),
   is (.int .i64 cb),
   is (.int .i64 ((1000 * lg2) + cb)),
   is (.int .i64 (((1000 * lg1) - ca) - ((1000 * lg2) + cb))),
   is (.int .i64 (((1000 * lg1) - ca) - ((1000 * lg2) + cb)))])
  ⟨is_k, is_k, is_k, is_k, is_k, is_k, is_k, is_k, is_k, is_k, is_k, is_k, is_k, is_k, is_k, is_k, is_k, is_k, trivial⟩
  ⟨fun f s W g j k l m a => opv rfl rfl (by simp [go_sem, a.e 8 k20_8]) rfl,
  fun f s W g j k l m a => by have aW := below_trans fA20 g; exact opv rfl rfl (by simp [go_sem, a.e 93 (j 0 rfl), cl (blk_below b17_2 aW) 1]) rfl,
  fun f s W g j k l m a => opv rfl rfl (by simp [go_sem, a.e 21 k20_21]) rfl,
  fun f s W g j k l m a => opv rfl rfl (by simp [go_sem, a.e 94 (j 1 rfl), a.e 95 (j 2 rfl)]) rfl,
  fun f s W g j k l m a => by have aW := below_trans fA20 g; have u4_ : W.cell? ⟨g7', 0, none⟩ = some (.int .i64 (lg1)) := (OwnI.cell ((q199'.below aW)) (i := 0) (by simp)); exact opv rfl rfl (by simp [go_sem, a.e 96 (j 3 rfl), u4_]) rfl,
  fun f s W g j k l m a => opv rfl rfl (by simp [go_sem, a.e 97 (j 4 rfl), IntWalk.i64_in (1000 * lg1) (by omega)]) rfl,
  fun f s W g j k l m a => opv rfl rfl (by simp [go_sem, a.e 18 k20_18]) rfl,
  fun f s W g j k l m a => opv rfl rfl (by simp [go_sem, a.e 98 (j 5 rfl), a.e 99 (j 6 rfl), IntWalk.i64_in ((1000 * lg1) - ca) (by omega)]) rfl,
  fun f s W g j k l m a => opv rfl rfl (by simp [go_sem, a.e 9 k20_9]) rfl,
  fun f s W g j k l m a => by have aW := below_trans fA20 g; exact opv rfl rfl (by simp [go_sem, a.e 101 (j 8 rfl), cl (blk_below b17_3 aW) 1]) rfl,
  fun f s W g j k l m a => opv rfl rfl (by simp [go_sem, a.e 21 k20_21]) rfl,
  fun f s W g j k l m a => opv rfl rfl (by simp [go_sem, a.e 102 (j 9 rfl), a.e 103 (j 10 rfl)]) rfl,
  fun f s W g j k l m a => by have aW := below_trans fA20 g; have u12_ : W.cell? ⟨g16', 0, none⟩ = some (.int .i64 (lg2)) := (OwnI.cell ((q202'.below aW)) (i := 0) (by simp)); exact opv rfl rfl (by simp [go_sem, a.e 104 (j 11 rfl), u12_]) rfl,
  fun f s W g j k l m a => opv rfl rfl (by simp [go_sem, a.e 105 (j 12 rfl), IntWalk.i64_in (1000 * lg2) (by omega)]) rfl,
  fun f s W g j k l m a => opv rfl rfl (by simp [go_sem, a.e 19 k20_19]) rfl,
  fun f s W g j k l m a => opv rfl rfl (by simp [go_sem, a.e 106 (j 13 rfl), a.e 107 (j 14 rfl), IntWalk.i64_in ((1000 * lg2) + cb) (by omega)]) rfl,
  fun f s W g j k l m a => opv rfl rfl (by simp [go_sem, a.e 100 (j 7 rfl), a.e 108 (j 15 rfl), IntWalk.i64_in (((1000 * lg1) - ca) - ((1000 * lg2) + cb)) (by omega)]) rfl,
  fun f s W g j k l m a => opv rfl rfl (by simp [go_sem, a.e 109 (j 16 rfl)]) rfl, trivial⟩ ?_
 intro f21 s21 W21 hB21 g21 hg21
 have fB21 := hB21.f fB20
 have z21 := hB21.below.size
 have fA21 := hB21.f fA20
 refine hK18 _ _ ?_
 have k21_6 := kt hg21 6 k20_6
 have k21_8 := kt hg21 8 k20_8
 have k21_9 := kt hg21 9 k20_9
 have k21_11 := kt hg21 11 k20_11
 have k21_14 := kt hg21 14 k20_14
 have k21_16 := kt hg21 16 k20_16
 have k21_18 := kt hg21 18 k20_18
 have k21_19 := kt hg21 19 k20_19
 have k21_20 := kt hg21 20 k20_20
 have k21_21 := kt hg21 21 k20_21
 have k21_90 := kt hg21 90 k20_90
 have k21_22 := kt hg21 22 (hB21.is 17)
 refine wp_seq_k fun K19 hK19 => ?_
 as_aux_lemma =>
 refine region_dk 7 [(110, 0), (111, 1), (112, 2), (113, 3), (114, 4), (115, 5), (116, 6)] [[], [], [0, 1], [0, 1, 2], [], [0, 1, 2, 3, 4], [0, 1, 2, 3, 4, 5]] (rel [is (.slice (a162') (PL.length) (c163')),
   is (.int .i64 0),
   is (.pointer (some ⟨bq, oq, none⟩)),
   is (.agg #[.int .i64 P1, .int .i64 P2]),
   is (.int .i64 (((1000 * lg1) - ca) - ((1000 * lg2) + cb))),
   is (.bool true),
   is (.bool false)])
  ⟨is_k, is_k, is_k, is_k, is_k, is_k, is_k, trivial⟩
  ⟨fun f s W g j k l m a => opv rfl rfl (by simp [go_sem, a.e 16 k21_16]) rfl,
  fun f s W g j k l m a => opv rfl rfl (by simp [go_sem, a.e 21 k21_21]) rfl,
  fun f s W g j k l m a => by have lij_ := Nat.not_le.2 (show 0 < PL.length by omega); exact opv rfl rfl (by simp [go_sem, a.e 110 (j 0 rfl), a.e 111 (j 1 rfl), hab, lij_]) rfl,
  fun f s W g j k l m a => by have aW := below_trans fA21 g; have cu := pp_nth (i := 0) (q205'.below aW (Nat.le_refl _)) hab (by omega); rw [hPL4 0 (by decide)] at cu; have cx_ : W.cell? ⟨bq, oq, none⟩ = some (.int .i64 P1) := cu.1; have cy_ : W.cell? ⟨bq, oq + 1, none⟩ = some (.int .i64 P2) := cu.2; exact opv rfl rfl (by simp [go_sem, a.e 112 (j 2 rfl), cx_, cy_]) rfl,
  fun f s W g j k l m a => opv rfl rfl (by simp [go_sem, a.e 22 k21_22]) rfl,
  fun f s W g j k l m a => opc rfl rfl (by simp [go_sem, a.e 113 (j 3 rfl), a.e 114 (j 4 rfl)]) (pubHas_yes (P1) (P2) (((1000 * lg1) - ca) - ((1000 * lg2) + cb)) W (decide_eq_true (by omega)) (decide_eq_true (by omega))),
  fun f s W g j k l m a => opv rfl rfl (by simp [go_sem, a.e 115 (j 5 rfl)]) rfl, trivial⟩ ?_
 intro f22 s22 W22 hB22 g22 hg22
 have fB22 := hB22.f fB21
 have z22 := hB22.below.size
 have fA22 := hB22.f fA21
 refine hK19 _ _ ?_
 have k22_6 := kt hg22 6 k21_6
 have k22_8 := kt hg22 8 k21_8
 have k22_9 := kt hg22 9 k21_9
 have k22_11 := kt hg22 11 k21_11
 have k22_14 := kt hg22 14 k21_14
 have k22_16 := kt hg22 16 k21_16
 have k22_18 := kt hg22 18 k21_18
 have k22_19 := kt hg22 19 k21_19
 have k22_20 := kt hg22 20 k21_20
 have k22_21 := kt hg22 21 k21_21
 have k22_90 := kt hg22 90 k21_90
 have k22_22 := kt hg22 22 k21_22
 have k22_116 := kt hg22 116 (hB22.is 6)
 refine wp_cond_false ((fr_eval rfl).trans k22_116) ?_
 refine wp_skip ?_
 refine hK17 _ _ ?_
 as_aux_lemma =>
 refine region_dk 10 [(117, 0), (118, 1), (119, 2), (120, 3), (121, 4), (122, 5), (123, 6), (124, 7), (125, 8), (20, 9)] [[], [0], [0, 1], [0, 1], [0, 1, 2, 3], [0, 1, 2, 3, 4], [0, 1, 2, 3, 4, 5], [0, 1, 2, 3, 4, 5, 6], [0, 1, 2, 3, 4, 5, 6, 7], [0, 1, 2, 3, 4, 5, 6, 7, 8]] (rel [is (.bool true),
   is (.bool true),
   is (.slice (a162') (PL.length) (c163')),
   is (.int .i64 0),
   is (.pointer (some ⟨bq, oq, none⟩)),
   is (.pointer (some ⟨bq, oq, none⟩)),
   is (.int .i64 P1),
   is (.bool lv),
   is (.bool lv),
   is (.bool lv)])
  ⟨is_k, is_k, is_k, is_k, is_k, is_k, is_k, is_k, is_k, is_k, trivial⟩
  ⟨fun f s W g j k l m a => opv rfl rfl (by simp [go_sem, a.e 20 ((l 9 20 rfl rfl).trans k22_20)]) rfl,
  fun f s W g j k l m a => opv rfl rfl (by simp [go_sem, a.e 117 (j 0 rfl)]) rfl,
  fun f s W g j k l m a => osure rfl rfl (a.says (d := 118) rfl rfl (j 1 rfl)) (gv (by simp [go_sem, a.e 16 k22_16]) rfl),
  fun f s W g j k l m a => osure rfl rfl (a.says (d := 118) rfl rfl (j 1 rfl)) (gv (by simp [go_sem, a.e 21 k22_21]) rfl),
  fun f s W g j k l m a => osure rfl rfl (a.says (d := 118) rfl rfl (j 1 rfl)) (by have lij_ := Nat.not_le.2 (show 0 < PL.length by omega); exact gv (by simp [go_sem, a.e 119 (j 2 rfl), a.e 120 (j 3 rfl), hab, lij_]) rfl),
  fun f s W g j k l m a => osure rfl rfl (a.says (d := 118) rfl rfl (j 1 rfl)) (gv (by simp [go_sem, a.e 121 (j 4 rfl)]) rfl),
  fun f s W g j k l m a => osure rfl rfl (a.says (d := 118) rfl rfl (j 1 rfl)) (by have aW := below_trans fA22 g; have cu := pp_nth (i := 0) (q205'.below aW (Nat.le_refl _)) hab (by omega); rw [hPL4 0 (by decide)] at cu; have cx_ : W.cell? ⟨bq, oq, none⟩ = some (.int .i64 P1) := cu.1; have cy_ : W.cell? ⟨bq, oq + 1, none⟩ = some (.int .i64 P2) := cu.2; exact gv (by simp [go_sem, a.e 122 (j 5 rfl), cx_]) rfl),
  fun f s W g j k l m a => osure rfl rfl (a.says (d := 118) rfl rfl (j 1 rfl)) (gv (by simp [go_sem, a.e 123 (j 6 rfl), hlo]) rfl),
  fun f s W g j k l m a => opk (c := true) rfl rfl (fun h => absurd h (by decide)) (fun _ => by simp [go_sem, a.e 118 (j 1 rfl), a.e 124 (j 7 rfl)]),
  fun f s W g j k l m a => opv rfl rfl (by simp [go_sem, a.e 125 (j 8 rfl)]) rfl, trivial⟩ ?_
 intro f23 s23 W23 hB23 g23 hg23
 have fB23 := hB23.f fB22
 have z23 := hB23.below.size
 have fA23 := hB23.f fA22
 refine wpOps_end ?_
 have k23_6 := kt hg23 6 k22_6
 have k23_8 := kt hg23 8 k22_8
 have k23_9 := kt hg23 9 k22_9
 have k23_11 := kt hg23 11 k22_11
 have k23_14 := kt hg23 14 k22_14
 have k23_16 := kt hg23 16 k22_16
 have k23_18 := kt hg23 18 k22_18
 have k23_19 := kt hg23 19 k22_19
 have k23_21 := kt hg23 21 k22_21
 have k23_90 := kt hg23 90 k22_90
 have k23_22 := kt hg23 22 k22_22
 have k23_116 := kt hg23 116 k22_116
 have k23_20 := kt hg23 20 (hB23.is 9)
 refine inBlock_normal ?_
 refine hK16 _ _ ?_
 as_aux_lemma =>
 refine region_dk 3 [(91, 0), (92, 1), (21, 2)] [[], [0], [0, 1]] (rel [is (.int .i64 0),
   is (.int .i64 1),
   is (.int .i64 1)])
  ⟨is_k, is_k, is_k, trivial⟩
  ⟨fun f s W g j k l m a => opv rfl rfl (by simp [go_sem, a.e 21 ((l 2 21 rfl rfl).trans k23_21)]) rfl,
  fun f s W g j k l m a => opv rfl rfl (by simp [go_sem, a.e 91 (j 0 rfl), IntWalk.i64_in (1) (by omega)]) rfl,
  fun f s W g j k l m a => opv rfl rfl (by simp [go_sem, a.e 92 (j 1 rfl)]) rfl, trivial⟩ ?_
 intro f24 s24 W24 hB24 g24 hg24
 have fB24 := hB24.f fB23
 have z24 := hB24.below.size
 have fA24 := hB24.f fA23
 refine wpOps_end ?_
 have k24_6 := kt hg24 6 k23_6
 have k24_8 := kt hg24 8 k23_8
 have k24_9 := kt hg24 9 k23_9
 have k24_11 := kt hg24 11 k23_11
 have k24_14 := kt hg24 14 k23_14
 have k24_16 := kt hg24 16 k23_16
 have k24_18 := kt hg24 18 k23_18
 have k24_19 := kt hg24 19 k23_19
 have k24_90 := kt hg24 90 k23_90
 have k24_22 := kt hg24 22 k23_22
 have k24_116 := kt hg24 116 k23_116
 have k24_20 := kt hg24 20 k23_20
 have k24_21 := kt hg24 21 (hB24.is 2)
 refine then_normal ?_
 rw [rounds_succ]
 refine wp_seq_k fun K21 hK21 => ?_
 refine wp_seq_k fun K22 hK22 => ?_
 as_aux_lemma =>
 refine region_dk 2 [(89, 0), (90, 1)] [[], [0]] (rel [is (.int .i64 1),
   is (.bool true)])
  ⟨is_k, is_k, trivial⟩
  ⟨fun f s W g j k l m a => opv rfl rfl (by simp [go_sem, a.e 21 k24_21]) rfl,
  fun f s W g j k l m a => opv rfl rfl (by simp [go_sem, a.e 89 (j 0 rfl)]) rfl, trivial⟩ ?_
 intro f25 s25 W25 hB25 g25 hg25
 have fB25 := hB25.f fB24
 have z25 := hB25.below.size
 have fA25 := hB25.f fA24
 refine hK22 _ _ ?_
 have k25_6 := kt hg25 6 k24_6
 have k25_8 := kt hg25 8 k24_8
 have k25_9 := kt hg25 9 k24_9
 have k25_11 := kt hg25 11 k24_11
 have k25_14 := kt hg25 14 k24_14
 have k25_16 := kt hg25 16 k24_16
 have k25_18 := kt hg25 18 k24_18
 have k25_19 := kt hg25 19 k24_19
 have k25_22 := kt hg25 22 k24_22
 have k25_116 := kt hg25 116 k24_116
 have k25_20 := kt hg25 20 k24_20
 have k25_21 := kt hg25 21 k24_21
 have k25_90 := kt hg25 90 (hB25.is 1)
 refine wp_cond_true ((fr_eval rfl).trans k25_90) ?_
 refine wp_skip ?_
 refine hK21 _ _ ?_
 refine wp_seq_k fun K24 hK24 => ?_
 refine wp_block ?_
 refine wp_seq_k fun K25 hK25 => ?_
 refine wp_seq_k fun K26 hK26 => ?_
 as_aux_lemma =>
 refine region_dk 18 [(93, 0), (94, 1), (95, 2), (96, 3), (97, 4), (98, 5), (99, 6), (100, 7), (101, 8), (102, 9), (103, 10), (104, 11), (105, 12), (106, 13), (107, 14), (108, 15), (109, 16), (22, 17)] [[], [0], [], [0, 1, 2], [0, 1, 2, 3], [0, 1, 2, 3, 4], [], [0, 1, 2, 3, 4, 5, 6], [], [8], [], [8, 9, 10], [8, 9, 10, 11], [8, 9, 10, 11, 12], [], [8, 9, 10, 11, 12, 13, 14], [0, 1, 2, 3, 4, 5, 6, 7, 8, 9, 10, 11, 12, 13, 14, 15], [0, 1, 2, 3, 4, 5, 6, 7, 8, 9, 10, 11, 12, 13, 14, 15, 16]] (rel [is (.pointer (some ⟨bk0, 1, none⟩)),
   is (.slice (some ⟨g7', 0, none⟩) (4) (c10')),
   is (.int .i64 1),
   is (.pointer (some ⟨g7', 1, none⟩)),
   is (.int .i64 wd1),
   is (.int .i64 (1000 * wd1)),
   is (.int .i64 ca),
   is (.int .i64 ((1000 * wd1) - ca)),
   is (.pointer (some ⟨bk1, 1, none⟩)),
   is (.slice (some ⟨g16', 0, none⟩) (4) (c19')),
   is (.int .i64 1),
   is (.pointer (some ⟨g16', 1, none⟩)),
   is (.int .i64 wd2),
   is (.int .i64 (1000 * wd2)),
   is (.int .i64 cb),
   is (.int .i64 ((1000 * wd2) + cb)),
   is (.int .i64 (((1000 * wd1) - ca) - ((1000 * wd2) + cb))),
   is (.int .i64 (((1000 * wd1) - ca) - ((1000 * wd2) + cb)))])
  ⟨is_k, is_k, is_k, is_k, is_k, is_k, is_k, is_k, is_k, is_k, is_k, is_k, is_k, is_k, is_k, is_k, is_k, is_k, trivial⟩
  ⟨fun f s W g j k l m a => opv rfl rfl (by simp [go_sem, a.e 8 k25_8]) rfl,
  fun f s W g j k l m a => by have aW := below_trans fA25 g; exact opv rfl rfl (by simp [go_sem, a.e 93 (j 0 rfl), cl (blk_below b17_2 aW) 1]) rfl,
  fun f s W g j k l m a => opv rfl rfl (by simp [go_sem, a.e 21 k25_21]) rfl,
  fun f s W g j k l m a => opv rfl rfl (by simp [go_sem, a.e 94 (j 1 rfl), a.e 95 (j 2 rfl)]) rfl,
  fun f s W g j k l m a => by have aW := below_trans fA25 g; have u4_ : W.cell? ⟨g7', 1, none⟩ = some (.int .i64 (wd1)) := (OwnI.cell ((q199'.below aW)) (i := 1) (by simp)); exact opv rfl rfl (by simp [go_sem, a.e 96 (j 3 rfl), u4_]) rfl,
  fun f s W g j k l m a => opv rfl rfl (by simp [go_sem, a.e 97 (j 4 rfl), IntWalk.i64_in (1000 * wd1) (by omega)]) rfl,
  fun f s W g j k l m a => opv rfl rfl (by simp [go_sem, a.e 18 k25_18]) rfl,
  fun f s W g j k l m a => opv rfl rfl (by simp [go_sem, a.e 98 (j 5 rfl), a.e 99 (j 6 rfl), IntWalk.i64_in ((1000 * wd1) - ca) (by omega)]) rfl,
  fun f s W g j k l m a => opv rfl rfl (by simp [go_sem, a.e 9 k25_9]) rfl,
  fun f s W g j k l m a => by have aW := below_trans fA25 g; exact opv rfl rfl (by simp [go_sem, a.e 101 (j 8 rfl), cl (blk_below b17_3 aW) 1]) rfl,
  fun f s W g j k l m a => opv rfl rfl (by simp [go_sem, a.e 21 k25_21]) rfl,
  fun f s W g j k l m a => opv rfl rfl (by simp [go_sem, a.e 102 (j 9 rfl), a.e 103 (j 10 rfl)]) rfl,
  fun f s W g j k l m a => by have aW := below_trans fA25 g; have u12_ : W.cell? ⟨g16', 1, none⟩ = some (.int .i64 (wd2)) := (OwnI.cell ((q202'.below aW)) (i := 1) (by simp)); exact opv rfl rfl (by simp [go_sem, a.e 104 (j 11 rfl), u12_]) rfl,
  fun f s W g j k l m a => opv rfl rfl (by simp [go_sem, a.e 105 (j 12 rfl), IntWalk.i64_in (1000 * wd2) (by omega)]) rfl,
  fun f s W g j k l m a => opv rfl rfl (by simp [go_sem, a.e 19 k25_19]) rfl,
  fun f s W g j k l m a => opv rfl rfl (by simp [go_sem, a.e 106 (j 13 rfl), a.e 107 (j 14 rfl), IntWalk.i64_in ((1000 * wd2) + cb) (by omega)]) rfl,
  fun f s W g j k l m a => opv rfl rfl (by simp [go_sem, a.e 100 (j 7 rfl), a.e 108 (j 15 rfl), IntWalk.i64_in (((1000 * wd1) - ca) - ((1000 * wd2) + cb)) (by omega)]) rfl,
  fun f s W g j k l m a => opv rfl rfl (by simp [go_sem, a.e 109 (j 16 rfl)]) rfl, trivial⟩ ?_
 intro f26 s26 W26 hB26 g26 hg26
 have fB26 := hB26.f fB25
 have z26 := hB26.below.size
 have fA26 := hB26.f fA25
 refine hK26 _ _ ?_
 have k26_6 := kt hg26 6 k25_6
 have k26_8 := kt hg26 8 k25_8
 have k26_9 := kt hg26 9 k25_9
 have k26_11 := kt hg26 11 k25_11
 have k26_14 := kt hg26 14 k25_14
 have k26_16 := kt hg26 16 k25_16
 have k26_18 := kt hg26 18 k25_18
 have k26_19 := kt hg26 19 k25_19
 have k26_116 := kt hg26 116 k25_116
 have k26_20 := kt hg26 20 k25_20
 have k26_21 := kt hg26 21 k25_21
 have k26_90 := kt hg26 90 k25_90
 have k26_22 := kt hg26 22 (hB26.is 17)
 refine wp_seq_k fun K27 hK27 => ?_
 as_aux_lemma =>
 refine region_dk 7 [(110, 0), (111, 1), (112, 2), (113, 3), (114, 4), (115, 5), (116, 6)] [[], [], [0, 1], [0, 1, 2], [], [0, 1, 2, 3, 4], [0, 1, 2, 3, 4, 5]] (rel [is (.slice (a162') (PL.length) (c163')),
   is (.int .i64 1),
   is (.pointer (some ⟨bq, oq + 2, none⟩)),
   is (.agg #[.int .i64 P1, .int .i64 P2]),
   is (.int .i64 (((1000 * wd1) - ca) - ((1000 * wd2) + cb))),
   is (.bool true),
   is (.bool false)])
  ⟨is_k, is_k, is_k, is_k, is_k, is_k, is_k, trivial⟩
  ⟨fun f s W g j k l m a => opv rfl rfl (by simp [go_sem, a.e 16 k26_16]) rfl,
  fun f s W g j k l m a => opv rfl rfl (by simp [go_sem, a.e 21 k26_21]) rfl,
  fun f s W g j k l m a => by have lij_ := Nat.not_le.2 (show 1 < PL.length by omega); have liz_ : ¬ (PL.length : Int) ≤ 1 := (by omega); exact opv rfl rfl (by simp [go_sem, a.e 110 (j 0 rfl), a.e 111 (j 1 rfl), hab, lij_, liz_]) rfl,
  fun f s W g j k l m a => by have aW := below_trans fA26 g; have cu := pp_nth (i := 1) (q205'.below aW (Nat.le_refl _)) hab (by omega); rw [hPL4 1 (by decide)] at cu; have cx_ : W.cell? ⟨bq, oq + 2, none⟩ = some (.int .i64 P1) := cu.1; have cy_ : W.cell? ⟨bq, oq + 2 + 1, none⟩ = some (.int .i64 P2) := cu.2; exact opv rfl rfl (by simp [go_sem, a.e 112 (j 2 rfl), cx_, cy_]) rfl,
  fun f s W g j k l m a => opv rfl rfl (by simp [go_sem, a.e 22 k26_22]) rfl,
  fun f s W g j k l m a => opc rfl rfl (by simp [go_sem, a.e 113 (j 3 rfl), a.e 114 (j 4 rfl)]) (pubHas_yes (P1) (P2) (((1000 * wd1) - ca) - ((1000 * wd2) + cb)) W (decide_eq_true (by omega)) (decide_eq_true (by omega))),
  fun f s W g j k l m a => opv rfl rfl (by simp [go_sem, a.e 115 (j 5 rfl)]) rfl, trivial⟩ ?_
 intro f27 s27 W27 hB27 g27 hg27
 have fB27 := hB27.f fB26
 have z27 := hB27.below.size
 have fA27 := hB27.f fA26
 refine hK27 _ _ ?_
 have k27_6 := kt hg27 6 k26_6
 have k27_8 := kt hg27 8 k26_8
 have k27_9 := kt hg27 9 k26_9
 have k27_11 := kt hg27 11 k26_11
 have k27_14 := kt hg27 14 k26_14
 have k27_16 := kt hg27 16 k26_16
 have k27_18 := kt hg27 18 k26_18
 have k27_19 := kt hg27 19 k26_19
 have k27_20 := kt hg27 20 k26_20
 have k27_21 := kt hg27 21 k26_21
 have k27_90 := kt hg27 90 k26_90
 have k27_22 := kt hg27 22 k26_22
 have k27_116 := kt hg27 116 (hB27.is 6)
 refine wp_cond_false ((fr_eval rfl).trans k27_116) ?_
 refine wp_skip ?_
 refine hK25 _ _ ?_
 as_aux_lemma =>
 refine region_dk 10 [(117, 0), (118, 1), (119, 2), (120, 3), (121, 4), (122, 5), (123, 6), (124, 7), (125, 8), (20, 9)] [[], [0], [0, 1], [0, 1], [0, 1, 2, 3], [0, 1, 2, 3, 4], [0, 1, 2, 3, 4, 5], [0, 1, 2, 3, 4, 5, 6], [0, 1, 2, 3, 4, 5, 6, 7], [0, 1, 2, 3, 4, 5, 6, 7, 8]] (rel [is (.bool lv),
   is (.bool lv),
   gd (lv) true (is (.slice (a162') (PL.length) (c163'))),
   gd (lv) true (is (.int .i64 1)),
   gd (lv) true (is (.pointer (some ⟨bq, oq + 2, none⟩))),
   gd (lv) true (is (.pointer (some ⟨bq, oq + 2, none⟩))),
   gd (lv) true (is (.int .i64 P1)),
   gd (lv) true (is (.bool lv)),
   is (.bool (lv && lv)),
   is (.bool (lv && lv))])
  ⟨is_k, is_k, gd_k (is_k), gd_k (is_k), gd_k (is_k), gd_k (is_k), gd_k (is_k), gd_k (is_k), is_k, is_k, trivial⟩
  ⟨fun f s W g j k l m a => opv rfl rfl (by simp [go_sem, a.e 20 ((l 9 20 rfl rfl).trans k27_20)]) rfl,
  fun f s W g j k l m a => opv rfl rfl (by simp [go_sem, a.e 117 (j 0 rfl)]) rfl,
  fun f s W g j k l m a => gdo rfl rfl (a.says (d := 118) rfl rfl (j 1 rfl)) fun hgd0 => gv (by simp [go_sem, a.e 16 k27_16]) rfl,
  fun f s W g j k l m a => gdo rfl rfl (a.says (d := 118) rfl rfl (j 1 rfl)) fun hgd0 => gv (by simp [go_sem, a.e 21 k27_21]) rfl,
  fun f s W g j k l m a => gdo rfl rfl (a.says (d := 118) rfl rfl (j 1 rfl)) fun hgd0 => by have lij_ := Nat.not_le.2 (show 1 < PL.length by omega); have liz_ : ¬ (PL.length : Int) ≤ 1 := (by omega); exact gv (by simp [go_sem, a.e 119 ((j 2 rfl).1 hgd0), a.e 120 ((j 3 rfl).1 hgd0), hab, lij_, liz_]) rfl,
  fun f s W g j k l m a => gdo rfl rfl (a.says (d := 118) rfl rfl (j 1 rfl)) fun hgd0 => gv (by simp [go_sem, a.e 121 ((j 4 rfl).1 hgd0)]) rfl,
  fun f s W g j k l m a => gdo rfl rfl (a.says (d := 118) rfl rfl (j 1 rfl)) fun hgd0 => by have aW := below_trans fA27 g; have cu := pp_nth (i := 1) (q205'.below aW (Nat.le_refl _)) hab (by omega); rw [hPL4 1 (by decide)] at cu; have cx_ : W.cell? ⟨bq, oq + 2, none⟩ = some (.int .i64 P1) := cu.1; have cy_ : W.cell? ⟨bq, oq + 2 + 1, none⟩ = some (.int .i64 P2) := cu.2; exact gv (by simp [go_sem, a.e 122 ((j 5 rfl).1 hgd0), cx_]) rfl,
  fun f s W g j k l m a => gdo rfl rfl (a.says (d := 118) rfl rfl (j 1 rfl)) fun hgd0 => gv (by simp [go_sem, a.e 123 ((j 6 rfl).1 hgd0), hlo]) rfl,
  fun f s W g j k l m a => opk (c := lv) rfl rfl (fun hpk => by simp [go_sem, hpk, a.e 118 (j 1 rfl)]) (fun hpk => by simp [go_sem, hpk, a.e 118 (j 1 rfl), a.e 124 ((j 7 rfl).1 hpk)]),
  fun f s W g j k l m a => opv rfl rfl (by simp [go_sem, a.e 125 (j 8 rfl)]) rfl, trivial⟩ ?_
 intro f28 s28 W28 hB28 g28 hg28
 have fB28 := hB28.f fB27
 have z28 := hB28.below.size
 have fA28 := hB28.f fA27
 refine wpOps_end ?_
 have k28_6 := kt hg28 6 k27_6
 have k28_8 := kt hg28 8 k27_8
 have k28_9 := kt hg28 9 k27_9
 have k28_11 := kt hg28 11 k27_11
 have k28_14 := kt hg28 14 k27_14
 have k28_16 := kt hg28 16 k27_16
 have k28_18 := kt hg28 18 k27_18
 have k28_19 := kt hg28 19 k27_19
 have k28_21 := kt hg28 21 k27_21
 have k28_90 := kt hg28 90 k27_90
 have k28_22 := kt hg28 22 k27_22
 have k28_116 := kt hg28 116 k27_116
 have k28_20 := kt hg28 20 (hB28.is 9)
 have nl28_ : g28 20 = .bool lv := k28_20.trans (by cases lv <;> rfl)
 refine inBlock_normal ?_
 refine hK24 _ _ ?_
 as_aux_lemma =>
 refine region_dk 3 [(91, 0), (92, 1), (21, 2)] [[], [0], [0, 1]] (rel [is (.int .i64 1),
   is (.int .i64 2),
   is (.int .i64 2)])
  ⟨is_k, is_k, is_k, trivial⟩
  ⟨fun f s W g j k l m a => opv rfl rfl (by simp [go_sem, a.e 21 ((l 2 21 rfl rfl).trans k28_21)]) rfl,
  fun f s W g j k l m a => opv rfl rfl (by simp [go_sem, a.e 91 (j 0 rfl), IntWalk.i64_in (2) (by omega)]) rfl,
  fun f s W g j k l m a => opv rfl rfl (by simp [go_sem, a.e 92 (j 1 rfl)]) rfl, trivial⟩ ?_
 intro f29 s29 W29 hB29 g29 hg29
 have fB29 := hB29.f fB28
 have z29 := hB29.below.size
 have fA29 := hB29.f fA28
 refine wpOps_end ?_
 have k29_6 := kt hg29 6 k28_6
 have k29_8 := kt hg29 8 k28_8
 have k29_9 := kt hg29 9 k28_9
 have k29_11 := kt hg29 11 k28_11
 have k29_14 := kt hg29 14 k28_14
 have k29_16 := kt hg29 16 k28_16
 have k29_18 := kt hg29 18 k28_18
 have k29_19 := kt hg29 19 k28_19
 have k29_90 := kt hg29 90 k28_90
 have k29_22 := kt hg29 22 k28_22
 have k29_116 := kt hg29 116 k28_116
 have k29_20 := kt hg29 20 nl28_
 have k29_21 := kt hg29 21 (hB29.is 2)
 refine then_normal ?_
 rw [rounds_succ]
 refine wp_seq_k fun K29 hK29 => ?_
 refine wp_seq_k fun K30 hK30 => ?_
 as_aux_lemma =>
 refine region_dk 2 [(89, 0), (90, 1)] [[], [0]] (rel [is (.int .i64 2),
   is (.bool true)])
  ⟨is_k, is_k, trivial⟩
  ⟨fun f s W g j k l m a => opv rfl rfl (by simp [go_sem, a.e 21 k29_21]) rfl,
  fun f s W g j k l m a => opv rfl rfl (by simp [go_sem, a.e 89 (j 0 rfl)]) rfl, trivial⟩ ?_
 intro f30 s30 W30 hB30 g30 hg30
 have fB30 := hB30.f fB29
 have z30 := hB30.below.size
 have fA30 := hB30.f fA29
 refine hK30 _ _ ?_
 have k30_6 := kt hg30 6 k29_6
 have k30_8 := kt hg30 8 k29_8
 have k30_9 := kt hg30 9 k29_9
 have k30_11 := kt hg30 11 k29_11
 have k30_14 := kt hg30 14 k29_14
 have k30_16 := kt hg30 16 k29_16
 have k30_18 := kt hg30 18 k29_18
 have k30_19 := kt hg30 19 k29_19
 have k30_22 := kt hg30 22 k29_22
 have k30_116 := kt hg30 116 k29_116
 have k30_20 := kt hg30 20 k29_20
 have k30_21 := kt hg30 21 k29_21
 have k30_90 := kt hg30 90 (hB30.is 1)
 refine wp_cond_true ((fr_eval rfl).trans k30_90) ?_
 refine wp_skip ?_
 refine hK29 _ _ ?_
 refine wp_seq_k fun K32 hK32 => ?_
 refine wp_block ?_
 refine wp_seq_k fun K33 hK33 => ?_
 refine wp_seq_k fun K34 hK34 => ?_
 as_aux_lemma =>
 refine region_dk 18 [(93, 0), (94, 1), (95, 2), (96, 3), (97, 4), (98, 5), (99, 6), (100, 7), (101, 8), (102, 9), (103, 10), (104, 11), (105, 12), (106, 13), (107, 14), (108, 15), (109, 16), (22, 17)] [[], [0], [], [0, 1, 2], [0, 1, 2, 3], [0, 1, 2, 3, 4], [], [0, 1, 2, 3, 4, 5, 6], [], [8], [], [8, 9, 10], [8, 9, 10, 11], [8, 9, 10, 11, 12], [], [8, 9, 10, 11, 12, 13, 14], [0, 1, 2, 3, 4, 5, 6, 7, 8, 9, 10, 11, 12, 13, 14, 15], [0, 1, 2, 3, 4, 5, 6, 7, 8, 9, 10, 11, 12, 13, 14, 15, 16]] (rel [is (.pointer (some ⟨bk0, 1, none⟩)),
   is (.slice (some ⟨g7', 0, none⟩) (4) (c10')),
   is (.int .i64 2),
   is (.pointer (some ⟨g7', 2, none⟩)),
   is (.int .i64 lg1),
   is (.int .i64 (1000 * lg1)),
   is (.int .i64 ca),
   is (.int .i64 ((1000 * lg1) - ca)),
   is (.pointer (some ⟨bk1, 1, none⟩)),
   is (.slice (some ⟨g16', 0, none⟩) (4) (c19')),
   is (.int .i64 2),
   is (.pointer (some ⟨g16', 2, none⟩)),
   is (.int .i64 lg2),
   is (.int .i64 (1000 * lg2)),
   is (.int .i64 cb),
   is (.int .i64 ((1000 * lg2) + cb)),
   is (.int .i64 (((1000 * lg1) - ca) - ((1000 * lg2) + cb))),
   is (.int .i64 (((1000 * lg1) - ca) - ((1000 * lg2) + cb)))])
  ⟨is_k, is_k, is_k, is_k, is_k, is_k, is_k, is_k, is_k, is_k, is_k, is_k, is_k, is_k, is_k, is_k, is_k, is_k, trivial⟩
  ⟨fun f s W g j k l m a => opv rfl rfl (by simp [go_sem, a.e 8 k30_8]) rfl,
  fun f s W g j k l m a => by have aW := below_trans fA30 g; exact opv rfl rfl (by simp [go_sem, a.e 93 (j 0 rfl), cl (blk_below b17_2 aW) 1]) rfl,
  fun f s W g j k l m a => opv rfl rfl (by simp [go_sem, a.e 21 k30_21]) rfl,
  fun f s W g j k l m a => opv rfl rfl (by simp [go_sem, a.e 94 (j 1 rfl), a.e 95 (j 2 rfl)]) rfl,
  fun f s W g j k l m a => by have aW := below_trans fA30 g; have u4_ : W.cell? ⟨g7', 2, none⟩ = some (.int .i64 (lg1)) := (OwnI.cell ((q199'.below aW)) (i := 2) (by simp)); exact opv rfl rfl (by simp [go_sem, a.e 96 (j 3 rfl), u4_]) rfl,
  fun f s W g j k l m a => opv rfl rfl (by simp [go_sem, a.e 97 (j 4 rfl), IntWalk.i64_in (1000 * lg1) (by omega)]) rfl,
  fun f s W g j k l m a => opv rfl rfl (by simp [go_sem, a.e 18 k30_18]) rfl,
  fun f s W g j k l m a => opv rfl rfl (by simp [go_sem, a.e 98 (j 5 rfl), a.e 99 (j 6 rfl), IntWalk.i64_in ((1000 * lg1) - ca) (by omega)]) rfl,
  fun f s W g j k l m a => opv rfl rfl (by simp [go_sem, a.e 9 k30_9]) rfl,
  fun f s W g j k l m a => by have aW := below_trans fA30 g; exact opv rfl rfl (by simp [go_sem, a.e 101 (j 8 rfl), cl (blk_below b17_3 aW) 1]) rfl,
  fun f s W g j k l m a => opv rfl rfl (by simp [go_sem, a.e 21 k30_21]) rfl,
  fun f s W g j k l m a => opv rfl rfl (by simp [go_sem, a.e 102 (j 9 rfl), a.e 103 (j 10 rfl)]) rfl,
  fun f s W g j k l m a => by have aW := below_trans fA30 g; have u12_ : W.cell? ⟨g16', 2, none⟩ = some (.int .i64 (lg2)) := (OwnI.cell ((q202'.below aW)) (i := 2) (by simp)); exact opv rfl rfl (by simp [go_sem, a.e 104 (j 11 rfl), u12_]) rfl,
  fun f s W g j k l m a => opv rfl rfl (by simp [go_sem, a.e 105 (j 12 rfl), IntWalk.i64_in (1000 * lg2) (by omega)]) rfl,
  fun f s W g j k l m a => opv rfl rfl (by simp [go_sem, a.e 19 k30_19]) rfl,
  fun f s W g j k l m a => opv rfl rfl (by simp [go_sem, a.e 106 (j 13 rfl), a.e 107 (j 14 rfl), IntWalk.i64_in ((1000 * lg2) + cb) (by omega)]) rfl,
  fun f s W g j k l m a => opv rfl rfl (by simp [go_sem, a.e 100 (j 7 rfl), a.e 108 (j 15 rfl), IntWalk.i64_in (((1000 * lg1) - ca) - ((1000 * lg2) + cb)) (by omega)]) rfl,
  fun f s W g j k l m a => opv rfl rfl (by simp [go_sem, a.e 109 (j 16 rfl)]) rfl, trivial⟩ ?_
 intro f31 s31 W31 hB31 g31 hg31
 have fB31 := hB31.f fB30
 have z31 := hB31.below.size
 have fA31 := hB31.f fA30
 refine hK34 _ _ ?_
 have k31_6 := kt hg31 6 k30_6
 have k31_8 := kt hg31 8 k30_8
 have k31_9 := kt hg31 9 k30_9
 have k31_11 := kt hg31 11 k30_11
 have k31_14 := kt hg31 14 k30_14
 have k31_16 := kt hg31 16 k30_16
 have k31_18 := kt hg31 18 k30_18
 have k31_19 := kt hg31 19 k30_19
 have k31_116 := kt hg31 116 k30_116
 have k31_20 := kt hg31 20 k30_20
 have k31_21 := kt hg31 21 k30_21
 have k31_90 := kt hg31 90 k30_90
 have k31_22 := kt hg31 22 (hB31.is 17)
 refine wp_seq_k fun K35 hK35 => ?_
 as_aux_lemma =>
 refine region_dk 7 [(110, 0), (111, 1), (112, 2), (113, 3), (114, 4), (115, 5), (116, 6)] [[], [], [0, 1], [0, 1, 2], [], [0, 1, 2, 3, 4], [0, 1, 2, 3, 4, 5]] (rel [is (.slice (a162') (PL.length) (c163')),
   is (.int .i64 2),
   is (.pointer (some ⟨bq, oq + 4, none⟩)),
   is (.agg #[.int .i64 P1, .int .i64 P2]),
   is (.int .i64 (((1000 * lg1) - ca) - ((1000 * lg2) + cb))),
   is (.bool true),
   is (.bool false)])
  ⟨is_k, is_k, is_k, is_k, is_k, is_k, is_k, trivial⟩
  ⟨fun f s W g j k l m a => opv rfl rfl (by simp [go_sem, a.e 16 k31_16]) rfl,
  fun f s W g j k l m a => opv rfl rfl (by simp [go_sem, a.e 21 k31_21]) rfl,
  fun f s W g j k l m a => by have lij_ := Nat.not_le.2 (show 2 < PL.length by omega); have liz_ : ¬ (PL.length : Int) ≤ 2 := (by omega); exact opv rfl rfl (by simp [go_sem, a.e 110 (j 0 rfl), a.e 111 (j 1 rfl), hab, lij_, liz_]) rfl,
  fun f s W g j k l m a => by have aW := below_trans fA31 g; have cu := pp_nth (i := 2) (q205'.below aW (Nat.le_refl _)) hab (by omega); rw [hPL4 2 (by decide)] at cu; have cx_ : W.cell? ⟨bq, oq + 4, none⟩ = some (.int .i64 P1) := cu.1; have cy_ : W.cell? ⟨bq, oq + 4 + 1, none⟩ = some (.int .i64 P2) := cu.2; exact opv rfl rfl (by simp [go_sem, a.e 112 (j 2 rfl), cx_, cy_]) rfl,
  fun f s W g j k l m a => opv rfl rfl (by simp [go_sem, a.e 22 k31_22]) rfl,
  fun f s W g j k l m a => opc rfl rfl (by simp [go_sem, a.e 113 (j 3 rfl), a.e 114 (j 4 rfl)]) (pubHas_yes (P1) (P2) (((1000 * lg1) - ca) - ((1000 * lg2) + cb)) W (decide_eq_true (by omega)) (decide_eq_true (by omega))),
  fun f s W g j k l m a => opv rfl rfl (by simp [go_sem, a.e 115 (j 5 rfl)]) rfl, trivial⟩ ?_
 intro f32 s32 W32 hB32 g32 hg32
 have fB32 := hB32.f fB31
 have z32 := hB32.below.size
 have fA32 := hB32.f fA31
 refine hK35 _ _ ?_
 have k32_6 := kt hg32 6 k31_6
 have k32_8 := kt hg32 8 k31_8
 have k32_9 := kt hg32 9 k31_9
 have k32_11 := kt hg32 11 k31_11
 have k32_14 := kt hg32 14 k31_14
 have k32_16 := kt hg32 16 k31_16
 have k32_18 := kt hg32 18 k31_18
 have k32_19 := kt hg32 19 k31_19
 have k32_20 := kt hg32 20 k31_20
 have k32_21 := kt hg32 21 k31_21
 have k32_90 := kt hg32 90 k31_90
 have k32_22 := kt hg32 22 k31_22
 have k32_116 := kt hg32 116 (hB32.is 6)
 refine wp_cond_false ((fr_eval rfl).trans k32_116) ?_
 refine wp_skip ?_
 refine hK33 _ _ ?_
 as_aux_lemma =>
 refine region_dk 10 [(117, 0), (118, 1), (119, 2), (120, 3), (121, 4), (122, 5), (123, 6), (124, 7), (125, 8), (20, 9)] [[], [0], [0, 1], [0, 1], [0, 1, 2, 3], [0, 1, 2, 3, 4], [0, 1, 2, 3, 4, 5], [0, 1, 2, 3, 4, 5, 6], [0, 1, 2, 3, 4, 5, 6, 7], [0, 1, 2, 3, 4, 5, 6, 7, 8]] (rel [is (.bool lv),
   is (.bool lv),
   gd (lv) true (is (.slice (a162') (PL.length) (c163'))),
   gd (lv) true (is (.int .i64 2)),
   gd (lv) true (is (.pointer (some ⟨bq, oq + 4, none⟩))),
   gd (lv) true (is (.pointer (some ⟨bq, oq + 4, none⟩))),
   gd (lv) true (is (.int .i64 P1)),
   gd (lv) true (is (.bool lv)),
   is (.bool (lv && lv)),
   is (.bool (lv && lv))])
  ⟨is_k, is_k, gd_k (is_k), gd_k (is_k), gd_k (is_k), gd_k (is_k), gd_k (is_k), gd_k (is_k), is_k, is_k, trivial⟩
  ⟨fun f s W g j k l m a => opv rfl rfl (by simp [go_sem, a.e 20 ((l 9 20 rfl rfl).trans k32_20)]) rfl,
  fun f s W g j k l m a => opv rfl rfl (by simp [go_sem, a.e 117 (j 0 rfl)]) rfl,
  fun f s W g j k l m a => gdo rfl rfl (a.says (d := 118) rfl rfl (j 1 rfl)) fun hgd0 => gv (by simp [go_sem, a.e 16 k32_16]) rfl,
  fun f s W g j k l m a => gdo rfl rfl (a.says (d := 118) rfl rfl (j 1 rfl)) fun hgd0 => gv (by simp [go_sem, a.e 21 k32_21]) rfl,
  fun f s W g j k l m a => gdo rfl rfl (a.says (d := 118) rfl rfl (j 1 rfl)) fun hgd0 => by have lij_ := Nat.not_le.2 (show 2 < PL.length by omega); have liz_ : ¬ (PL.length : Int) ≤ 2 := (by omega); exact gv (by simp [go_sem, a.e 119 ((j 2 rfl).1 hgd0), a.e 120 ((j 3 rfl).1 hgd0), hab, lij_, liz_]) rfl,
  fun f s W g j k l m a => gdo rfl rfl (a.says (d := 118) rfl rfl (j 1 rfl)) fun hgd0 => gv (by simp [go_sem, a.e 121 ((j 4 rfl).1 hgd0)]) rfl,
  fun f s W g j k l m a => gdo rfl rfl (a.says (d := 118) rfl rfl (j 1 rfl)) fun hgd0 => by have aW := below_trans fA32 g; have cu := pp_nth (i := 2) (q205'.below aW (Nat.le_refl _)) hab (by omega); rw [hPL4 2 (by decide)] at cu; have cx_ : W.cell? ⟨bq, oq + 4, none⟩ = some (.int .i64 P1) := cu.1; have cy_ : W.cell? ⟨bq, oq + 4 + 1, none⟩ = some (.int .i64 P2) := cu.2; exact gv (by simp [go_sem, a.e 122 ((j 5 rfl).1 hgd0), cx_]) rfl,
  fun f s W g j k l m a => gdo rfl rfl (a.says (d := 118) rfl rfl (j 1 rfl)) fun hgd0 => gv (by simp [go_sem, a.e 123 ((j 6 rfl).1 hgd0), hlo]) rfl,
  fun f s W g j k l m a => opk (c := lv) rfl rfl (fun hpk => by simp [go_sem, hpk, a.e 118 (j 1 rfl)]) (fun hpk => by simp [go_sem, hpk, a.e 118 (j 1 rfl), a.e 124 ((j 7 rfl).1 hpk)]),
  fun f s W g j k l m a => opv rfl rfl (by simp [go_sem, a.e 125 (j 8 rfl)]) rfl, trivial⟩ ?_
 intro f33 s33 W33 hB33 g33 hg33
 have fB33 := hB33.f fB32
 have z33 := hB33.below.size
 have fA33 := hB33.f fA32
 refine wpOps_end ?_
 have k33_6 := kt hg33 6 k32_6
 have k33_8 := kt hg33 8 k32_8
 have k33_9 := kt hg33 9 k32_9
 have k33_11 := kt hg33 11 k32_11
 have k33_14 := kt hg33 14 k32_14
 have k33_16 := kt hg33 16 k32_16
 have k33_18 := kt hg33 18 k32_18
 have k33_19 := kt hg33 19 k32_19
 have k33_21 := kt hg33 21 k32_21
 have k33_90 := kt hg33 90 k32_90
 have k33_22 := kt hg33 22 k32_22
 have k33_116 := kt hg33 116 k32_116
 have k33_20 := kt hg33 20 (hB33.is 9)
 have nl33_ : g33 20 = .bool lv := k33_20.trans (by cases lv <;> rfl)
 refine inBlock_normal ?_
 refine hK32 _ _ ?_
 as_aux_lemma =>
 refine region_dk 3 [(91, 0), (92, 1), (21, 2)] [[], [0], [0, 1]] (rel [is (.int .i64 2),
   is (.int .i64 3),
   is (.int .i64 3)])
  ⟨is_k, is_k, is_k, trivial⟩
  ⟨fun f s W g j k l m a => opv rfl rfl (by simp [go_sem, a.e 21 ((l 2 21 rfl rfl).trans k33_21)]) rfl,
  fun f s W g j k l m a => opv rfl rfl (by simp [go_sem, a.e 91 (j 0 rfl), IntWalk.i64_in (3) (by omega)]) rfl,
  fun f s W g j k l m a => opv rfl rfl (by simp [go_sem, a.e 92 (j 1 rfl)]) rfl, trivial⟩ ?_
 intro f34 s34 W34 hB34 g34 hg34
 have fB34 := hB34.f fB33
 have z34 := hB34.below.size
 have fA34 := hB34.f fA33
 refine wpOps_end ?_
 have k34_6 := kt hg34 6 k33_6
 have k34_8 := kt hg34 8 k33_8
 have k34_9 := kt hg34 9 k33_9
 have k34_11 := kt hg34 11 k33_11
 have k34_14 := kt hg34 14 k33_14
 have k34_16 := kt hg34 16 k33_16
 have k34_18 := kt hg34 18 k33_18
 have k34_19 := kt hg34 19 k33_19
 have k34_90 := kt hg34 90 k33_90
 have k34_22 := kt hg34 22 k33_22
 have k34_116 := kt hg34 116 k33_116
 have k34_20 := kt hg34 20 nl33_
 have k34_21 := kt hg34 21 (hB34.is 2)
 refine then_normal ?_
 rw [rounds_succ]
 refine wp_seq_k fun K37 hK37 => ?_
 refine wp_seq_k fun K38 hK38 => ?_
 as_aux_lemma =>
 refine region_dk 2 [(89, 0), (90, 1)] [[], [0]] (rel [is (.int .i64 3),
   is (.bool true)])
  ⟨is_k, is_k, trivial⟩
  ⟨fun f s W g j k l m a => opv rfl rfl (by simp [go_sem, a.e 21 k34_21]) rfl,
  fun f s W g j k l m a => opv rfl rfl (by simp [go_sem, a.e 89 (j 0 rfl)]) rfl, trivial⟩ ?_
 intro f35 s35 W35 hB35 g35 hg35
 have fB35 := hB35.f fB34
 have z35 := hB35.below.size
 have fA35 := hB35.f fA34
 refine hK38 _ _ ?_
 have k35_6 := kt hg35 6 k34_6
 have k35_8 := kt hg35 8 k34_8
 have k35_9 := kt hg35 9 k34_9
 have k35_11 := kt hg35 11 k34_11
 have k35_14 := kt hg35 14 k34_14
 have k35_16 := kt hg35 16 k34_16
 have k35_18 := kt hg35 18 k34_18
 have k35_19 := kt hg35 19 k34_19
 have k35_22 := kt hg35 22 k34_22
 have k35_116 := kt hg35 116 k34_116
 have k35_20 := kt hg35 20 k34_20
 have k35_21 := kt hg35 21 k34_21
 have k35_90 := kt hg35 90 (hB35.is 1)
 refine wp_cond_true ((fr_eval rfl).trans k35_90) ?_
 refine wp_skip ?_
 refine hK37 _ _ ?_
 refine wp_seq_k fun K40 hK40 => ?_
 refine wp_block ?_
 refine wp_seq_k fun K41 hK41 => ?_
 refine wp_seq_k fun K42 hK42 => ?_
 as_aux_lemma =>
 refine region_dk 18 [(93, 0), (94, 1), (95, 2), (96, 3), (97, 4), (98, 5), (99, 6), (100, 7), (101, 8), (102, 9), (103, 10), (104, 11), (105, 12), (106, 13), (107, 14), (108, 15), (109, 16), (22, 17)] [[], [0], [], [0, 1, 2], [0, 1, 2, 3], [0, 1, 2, 3, 4], [], [0, 1, 2, 3, 4, 5, 6], [], [8], [], [8, 9, 10], [8, 9, 10, 11], [8, 9, 10, 11, 12], [], [8, 9, 10, 11, 12, 13, 14], [0, 1, 2, 3, 4, 5, 6, 7, 8, 9, 10, 11, 12, 13, 14, 15], [0, 1, 2, 3, 4, 5, 6, 7, 8, 9, 10, 11, 12, 13, 14, 15, 16]] (rel [is (.pointer (some ⟨bk0, 1, none⟩)),
   is (.slice (some ⟨g7', 0, none⟩) (4) (c10')),
   is (.int .i64 3),
   is (.pointer (some ⟨g7', 3, none⟩)),
   is (.int .i64 wd1),
   is (.int .i64 (1000 * wd1)),
   is (.int .i64 ca),
   is (.int .i64 ((1000 * wd1) - ca)),
   is (.pointer (some ⟨bk1, 1, none⟩)),
   is (.slice (some ⟨g16', 0, none⟩) (4) (c19')),
   is (.int .i64 3),
   is (.pointer (some ⟨g16', 3, none⟩)),
   is (.int .i64 wd2),
   is (.int .i64 (1000 * wd2)),
   is (.int .i64 cb),
   is (.int .i64 ((1000 * wd2) + cb)),
   is (.int .i64 (((1000 * wd1) - ca) - ((1000 * wd2) + cb))),
   is (.int .i64 (((1000 * wd1) - ca) - ((1000 * wd2) + cb)))])
  ⟨is_k, is_k, is_k, is_k, is_k, is_k, is_k, is_k, is_k, is_k, is_k, is_k, is_k, is_k, is_k, is_k, is_k, is_k, trivial⟩
  ⟨fun f s W g j k l m a => opv rfl rfl (by simp [go_sem, a.e 8 k35_8]) rfl,
  fun f s W g j k l m a => by have aW := below_trans fA35 g; exact opv rfl rfl (by simp [go_sem, a.e 93 (j 0 rfl), cl (blk_below b17_2 aW) 1]) rfl,
  fun f s W g j k l m a => opv rfl rfl (by simp [go_sem, a.e 21 k35_21]) rfl,
  fun f s W g j k l m a => opv rfl rfl (by simp [go_sem, a.e 94 (j 1 rfl), a.e 95 (j 2 rfl)]) rfl,
  fun f s W g j k l m a => by have aW := below_trans fA35 g; have u4_ : W.cell? ⟨g7', 3, none⟩ = some (.int .i64 (wd1)) := (OwnI.cell ((q199'.below aW)) (i := 3) (by simp)); exact opv rfl rfl (by simp [go_sem, a.e 96 (j 3 rfl), u4_]) rfl,
  fun f s W g j k l m a => opv rfl rfl (by simp [go_sem, a.e 97 (j 4 rfl), IntWalk.i64_in (1000 * wd1) (by omega)]) rfl,
  fun f s W g j k l m a => opv rfl rfl (by simp [go_sem, a.e 18 k35_18]) rfl,
  fun f s W g j k l m a => opv rfl rfl (by simp [go_sem, a.e 98 (j 5 rfl), a.e 99 (j 6 rfl), IntWalk.i64_in ((1000 * wd1) - ca) (by omega)]) rfl,
  fun f s W g j k l m a => opv rfl rfl (by simp [go_sem, a.e 9 k35_9]) rfl,
  fun f s W g j k l m a => by have aW := below_trans fA35 g; exact opv rfl rfl (by simp [go_sem, a.e 101 (j 8 rfl), cl (blk_below b17_3 aW) 1]) rfl,
  fun f s W g j k l m a => opv rfl rfl (by simp [go_sem, a.e 21 k35_21]) rfl,
  fun f s W g j k l m a => opv rfl rfl (by simp [go_sem, a.e 102 (j 9 rfl), a.e 103 (j 10 rfl)]) rfl,
  fun f s W g j k l m a => by have aW := below_trans fA35 g; have u12_ : W.cell? ⟨g16', 3, none⟩ = some (.int .i64 (wd2)) := (OwnI.cell ((q202'.below aW)) (i := 3) (by simp)); exact opv rfl rfl (by simp [go_sem, a.e 104 (j 11 rfl), u12_]) rfl,
  fun f s W g j k l m a => opv rfl rfl (by simp [go_sem, a.e 105 (j 12 rfl), IntWalk.i64_in (1000 * wd2) (by omega)]) rfl,
  fun f s W g j k l m a => opv rfl rfl (by simp [go_sem, a.e 19 k35_19]) rfl,
  fun f s W g j k l m a => opv rfl rfl (by simp [go_sem, a.e 106 (j 13 rfl), a.e 107 (j 14 rfl), IntWalk.i64_in ((1000 * wd2) + cb) (by omega)]) rfl,
  fun f s W g j k l m a => opv rfl rfl (by simp [go_sem, a.e 100 (j 7 rfl), a.e 108 (j 15 rfl), IntWalk.i64_in (((1000 * wd1) - ca) - ((1000 * wd2) + cb)) (by omega)]) rfl,
  fun f s W g j k l m a => opv rfl rfl (by simp [go_sem, a.e 109 (j 16 rfl)]) rfl, trivial⟩ ?_
 intro f36 s36 W36 hB36 g36 hg36
 have fB36 := hB36.f fB35
 have z36 := hB36.below.size
 have fA36 := hB36.f fA35
 refine hK42 _ _ ?_
 have k36_6 := kt hg36 6 k35_6
 have k36_8 := kt hg36 8 k35_8
 have k36_9 := kt hg36 9 k35_9
 have k36_11 := kt hg36 11 k35_11
 have k36_14 := kt hg36 14 k35_14
 have k36_16 := kt hg36 16 k35_16
 have k36_18 := kt hg36 18 k35_18
 have k36_19 := kt hg36 19 k35_19
 have k36_116 := kt hg36 116 k35_116
 have k36_20 := kt hg36 20 k35_20
 have k36_21 := kt hg36 21 k35_21
 have k36_90 := kt hg36 90 k35_90
 have k36_22 := kt hg36 22 (hB36.is 17)
 refine wp_seq_k fun K43 hK43 => ?_
 as_aux_lemma =>
 refine region_dk 7 [(110, 0), (111, 1), (112, 2), (113, 3), (114, 4), (115, 5), (116, 6)] [[], [], [0, 1], [0, 1, 2], [], [0, 1, 2, 3, 4], [0, 1, 2, 3, 4, 5]] (rel [is (.slice (a162') (PL.length) (c163')),
   is (.int .i64 3),
   is (.pointer (some ⟨bq, oq + 6, none⟩)),
   is (.agg #[.int .i64 P1, .int .i64 P2]),
   is (.int .i64 (((1000 * wd1) - ca) - ((1000 * wd2) + cb))),
   is (.bool true),
   is (.bool false)])
  ⟨is_k, is_k, is_k, is_k, is_k, is_k, is_k, trivial⟩
  ⟨fun f s W g j k l m a => opv rfl rfl (by simp [go_sem, a.e 16 k36_16]) rfl,
  fun f s W g j k l m a => opv rfl rfl (by simp [go_sem, a.e 21 k36_21]) rfl,
  fun f s W g j k l m a => by have lij_ := Nat.not_le.2 (show 3 < PL.length by omega); have liz_ : ¬ (PL.length : Int) ≤ 3 := (by omega); exact opv rfl rfl (by simp [go_sem, a.e 110 (j 0 rfl), a.e 111 (j 1 rfl), hab, lij_, liz_]) rfl,
  fun f s W g j k l m a => by have aW := below_trans fA36 g; have cu := pp_nth (i := 3) (q205'.below aW (Nat.le_refl _)) hab (by omega); rw [hPL4 3 (by decide)] at cu; have cx_ : W.cell? ⟨bq, oq + 6, none⟩ = some (.int .i64 P1) := cu.1; have cy_ : W.cell? ⟨bq, oq + 6 + 1, none⟩ = some (.int .i64 P2) := cu.2; exact opv rfl rfl (by simp [go_sem, a.e 112 (j 2 rfl), cx_, cy_]) rfl,
  fun f s W g j k l m a => opv rfl rfl (by simp [go_sem, a.e 22 k36_22]) rfl,
  fun f s W g j k l m a => opc rfl rfl (by simp [go_sem, a.e 113 (j 3 rfl), a.e 114 (j 4 rfl)]) (pubHas_yes (P1) (P2) (((1000 * wd1) - ca) - ((1000 * wd2) + cb)) W (decide_eq_true (by omega)) (decide_eq_true (by omega))),
  fun f s W g j k l m a => opv rfl rfl (by simp [go_sem, a.e 115 (j 5 rfl)]) rfl, trivial⟩ ?_
 intro f37 s37 W37 hB37 g37 hg37
 have fB37 := hB37.f fB36
 have z37 := hB37.below.size
 have fA37 := hB37.f fA36
 refine hK43 _ _ ?_
 have k37_6 := kt hg37 6 k36_6
 have k37_8 := kt hg37 8 k36_8
 have k37_9 := kt hg37 9 k36_9
 have k37_11 := kt hg37 11 k36_11
 have k37_14 := kt hg37 14 k36_14
 have k37_16 := kt hg37 16 k36_16
 have k37_18 := kt hg37 18 k36_18
 have k37_19 := kt hg37 19 k36_19
 have k37_20 := kt hg37 20 k36_20
 have k37_21 := kt hg37 21 k36_21
 have k37_90 := kt hg37 90 k36_90
 have k37_22 := kt hg37 22 k36_22
 have k37_116 := kt hg37 116 (hB37.is 6)
 refine wp_cond_false ((fr_eval rfl).trans k37_116) ?_
 refine wp_skip ?_
 refine hK41 _ _ ?_
 as_aux_lemma =>
 refine region_dk 10 [(117, 0), (118, 1), (119, 2), (120, 3), (121, 4), (122, 5), (123, 6), (124, 7), (125, 8), (20, 9)] [[], [0], [0, 1], [0, 1], [0, 1, 2, 3], [0, 1, 2, 3, 4], [0, 1, 2, 3, 4, 5], [0, 1, 2, 3, 4, 5, 6], [0, 1, 2, 3, 4, 5, 6, 7], [0, 1, 2, 3, 4, 5, 6, 7, 8]] (rel [is (.bool lv),
   is (.bool lv),
   gd (lv) true (is (.slice (a162') (PL.length) (c163'))),
   gd (lv) true (is (.int .i64 3)),
   gd (lv) true (is (.pointer (some ⟨bq, oq + 6, none⟩))),
   gd (lv) true (is (.pointer (some ⟨bq, oq + 6, none⟩))),
   gd (lv) true (is (.int .i64 P1)),
   gd (lv) true (is (.bool lv)),
   is (.bool (lv && lv)),
   is (.bool (lv && lv))])
  ⟨is_k, is_k, gd_k (is_k), gd_k (is_k), gd_k (is_k), gd_k (is_k), gd_k (is_k), gd_k (is_k), is_k, is_k, trivial⟩
  ⟨fun f s W g j k l m a => opv rfl rfl (by simp [go_sem, a.e 20 ((l 9 20 rfl rfl).trans k37_20)]) rfl,
  fun f s W g j k l m a => opv rfl rfl (by simp [go_sem, a.e 117 (j 0 rfl)]) rfl,
  fun f s W g j k l m a => gdo rfl rfl (a.says (d := 118) rfl rfl (j 1 rfl)) fun hgd0 => gv (by simp [go_sem, a.e 16 k37_16]) rfl,
  fun f s W g j k l m a => gdo rfl rfl (a.says (d := 118) rfl rfl (j 1 rfl)) fun hgd0 => gv (by simp [go_sem, a.e 21 k37_21]) rfl,
  fun f s W g j k l m a => gdo rfl rfl (a.says (d := 118) rfl rfl (j 1 rfl)) fun hgd0 => by have lij_ := Nat.not_le.2 (show 3 < PL.length by omega); have liz_ : ¬ (PL.length : Int) ≤ 3 := (by omega); exact gv (by simp [go_sem, a.e 119 ((j 2 rfl).1 hgd0), a.e 120 ((j 3 rfl).1 hgd0), hab, lij_, liz_]) rfl,
  fun f s W g j k l m a => gdo rfl rfl (a.says (d := 118) rfl rfl (j 1 rfl)) fun hgd0 => gv (by simp [go_sem, a.e 121 ((j 4 rfl).1 hgd0)]) rfl,
  fun f s W g j k l m a => gdo rfl rfl (a.says (d := 118) rfl rfl (j 1 rfl)) fun hgd0 => by have aW := below_trans fA37 g; have cu := pp_nth (i := 3) (q205'.below aW (Nat.le_refl _)) hab (by omega); rw [hPL4 3 (by decide)] at cu; have cx_ : W.cell? ⟨bq, oq + 6, none⟩ = some (.int .i64 P1) := cu.1; have cy_ : W.cell? ⟨bq, oq + 6 + 1, none⟩ = some (.int .i64 P2) := cu.2; exact gv (by simp [go_sem, a.e 122 ((j 5 rfl).1 hgd0), cx_]) rfl,
  fun f s W g j k l m a => gdo rfl rfl (a.says (d := 118) rfl rfl (j 1 rfl)) fun hgd0 => gv (by simp [go_sem, a.e 123 ((j 6 rfl).1 hgd0), hlo]) rfl,
  fun f s W g j k l m a => opk (c := lv) rfl rfl (fun hpk => by simp [go_sem, hpk, a.e 118 (j 1 rfl)]) (fun hpk => by simp [go_sem, hpk, a.e 118 (j 1 rfl), a.e 124 ((j 7 rfl).1 hpk)]),
  fun f s W g j k l m a => opv rfl rfl (by simp [go_sem, a.e 125 (j 8 rfl)]) rfl, trivial⟩ ?_
 intro f38 s38 W38 hB38 g38 hg38
 have fB38 := hB38.f fB37
 have z38 := hB38.below.size
 have fA38 := hB38.f fA37
 refine wpOps_end ?_
 have k38_6 := kt hg38 6 k37_6
 have k38_8 := kt hg38 8 k37_8
 have k38_9 := kt hg38 9 k37_9
 have k38_11 := kt hg38 11 k37_11
 have k38_14 := kt hg38 14 k37_14
 have k38_16 := kt hg38 16 k37_16
 have k38_18 := kt hg38 18 k37_18
 have k38_19 := kt hg38 19 k37_19
 have k38_21 := kt hg38 21 k37_21
 have k38_90 := kt hg38 90 k37_90
 have k38_22 := kt hg38 22 k37_22
 have k38_116 := kt hg38 116 k37_116
 have k38_20 := kt hg38 20 (hB38.is 9)
 have nl38_ : g38 20 = .bool lv := k38_20.trans (by cases lv <;> rfl)
 refine inBlock_normal ?_
 refine hK40 _ _ ?_
 as_aux_lemma =>
 refine region_dk 3 [(91, 0), (92, 1), (21, 2)] [[], [0], [0, 1]] (rel [is (.int .i64 3),
   is (.int .i64 4),
   is (.int .i64 4)])
  ⟨is_k, is_k, is_k, trivial⟩
  ⟨fun f s W g j k l m a => opv rfl rfl (by simp [go_sem, a.e 21 ((l 2 21 rfl rfl).trans k38_21)]) rfl,
  fun f s W g j k l m a => opv rfl rfl (by simp [go_sem, a.e 91 (j 0 rfl), IntWalk.i64_in (4) (by omega)]) rfl,
  fun f s W g j k l m a => opv rfl rfl (by simp [go_sem, a.e 92 (j 1 rfl)]) rfl, trivial⟩ ?_
 intro f39 s39 W39 hB39 g39 hg39
 have fB39 := hB39.f fB38
 have z39 := hB39.below.size
 have fA39 := hB39.f fA38
 refine wpOps_end ?_
 have k39_6 := kt hg39 6 k38_6
 have k39_8 := kt hg39 8 k38_8
 have k39_9 := kt hg39 9 k38_9
 have k39_11 := kt hg39 11 k38_11
 have k39_14 := kt hg39 14 k38_14
 have k39_16 := kt hg39 16 k38_16
 have k39_18 := kt hg39 18 k38_18
 have k39_19 := kt hg39 19 k38_19
 have k39_90 := kt hg39 90 k38_90
 have k39_22 := kt hg39 22 k38_22
 have k39_116 := kt hg39 116 k38_116
 have k39_20 := kt hg39 20 nl38_
 have k39_21 := kt hg39 21 (hB39.is 2)
 refine then_normal ?_
 rw [rounds_succ]
 refine wp_seq_k fun K45 hK45 => ?_
 refine wp_seq_k fun K46 hK46 => ?_
 as_aux_lemma =>
 refine region_dk 2 [(89, 0), (90, 1)] [[], [0]] (rel [is (.int .i64 4),
   is (.bool false)])
  ⟨is_k, is_k, trivial⟩
  ⟨fun f s W g j k l m a => opv rfl rfl (by simp [go_sem, a.e 21 k39_21]) rfl,
  fun f s W g j k l m a => opv rfl rfl (by simp [go_sem, a.e 89 (j 0 rfl)]) rfl, trivial⟩ ?_
 intro f40 s40 W40 hB40 g40 hg40
 have fB40 := hB40.f fB39
 have z40 := hB40.below.size
 have fA40 := hB40.f fA39
 refine hK46 _ _ ?_
 have k40_6 := kt hg40 6 k39_6
 have k40_8 := kt hg40 8 k39_8
 have k40_9 := kt hg40 9 k39_9
 have k40_11 := kt hg40 11 k39_11
 have k40_14 := kt hg40 14 k39_14
 have k40_16 := kt hg40 16 k39_16
 have k40_18 := kt hg40 18 k39_18
 have k40_19 := kt hg40 19 k39_19
 have k40_22 := kt hg40 22 k39_22
 have k40_116 := kt hg40 116 k39_116
 have k40_20 := kt hg40 20 k39_20
 have k40_21 := kt hg40 21 k39_21
 have k40_90 := kt hg40 90 (hB40.is 1)
 refine wp_cond_false ((fr_eval rfl).trans k40_90) ?_
 refine wp_exit ?_
 refine then_exit ?_
 refine then_exit ?_
 refine inBlock_at ?_
 refine hK11 _ _ ?_
 have q206' := (q197'.below fA40)
 have q207' := (q198'.below fA40)
 have q208' := (q199'.below fA40)
 have q209' := (q200'.below fA40)
 have q210' := (q201'.below fA40)
 have q211' := (q202'.below fA40)
 have q212' := (q203'.below fA40)
 have q213' := (q204'.below fA40)
 have q214' := (q205'.below fA40 (Nat.le_refl _))
 have bl215' := blk_below b17_0 fA40
 have bl216' := blk_below b17_1 fA40
 have bl217' := blk_below b17_2 fA40
 have bl218' := blk_below b17_3 fA40
 have bl219' := blk_below b17_4 fA40
 have bl220' := blk_below b17_5 fA40
 have bl221' := blk_below b17_6 fA40
 have bl222' := blk_below b17_7 fA40
 exact lid_main_c16 fv mv mo ps qs ta tn tc bs tb1 lg1 wd1 hh1 fp1 fq1 sl1 tb2 lg2 wd2 hh2 fp2 fq2 sl2 b1 b2 ka kb kc kd m1 m2 m3 m4 ca cb x0 x1 x2 P1 P2 sv1 pv1 sv2 lv hv PL w gmv hmo hst hbox1 hbox2 hI hb1 hb2 hck1 hck2 hT hm1 hm2 hka hkb hm3 hm4 hkc hkd hca hcb gca gcb j1 j2 j3 j4 j5 j6 hPL hn4 hPL4 hP1 hP2 hdd' hx0 hx1 hx2 gx0 gx1 gx2 hs2 hp2 hs1 hp1 gg1 gg2 gg3 gg4 gg5 gg6 hlo hhi hfin g40 W40 bk0 bk1 bk2 bk3 a162' c163' g1' c3' g2' c4' g7' c10' g8' c11' g9' c12' g16' c19' g17' c20' g18' c21' bk4 bk5 bk6 bk7 k40_6 k40_8 k40_9 k40_11 k40_14 k40_20 fB40 bl215' bl216' bl217' bl218' bl219' bl220' bl221' bl222' q206' q207' q208' q209' q210' q211' q212' q213' q214' (by omega) (by omega) (by omega) (by omega) (by omega) (by omega) (by omega) (by omega)
end Go.Proofs.Ytiocklgakklkpaa
