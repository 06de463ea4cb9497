/- Part of the proof: what the claim leans on. -/
import Derived.Test.YtiocklgakklkpaaLAX
set_option linter.unusedSimpArgs false
set_option linter.unusedVariables false
namespace Go.Proofs.Ytiocklgakklkpaa
open Go.RowKit
set_option maxRecDepth 100000 in
set_option maxHeartbeats 40000000 in
theorem lid_main_c16 (fv : Nat → Int) (mv mo : Int) (ps : Nat → Pa) (qs : Nat → Fu) (ta : Option Addr) (tn tc : Nat) (bs : Nat → Int) (tb1 lg1 wd1 hh1 fp1 fq1 sl1 tb2 lg2 wd2 hh2 fp2 fq2 sl2 : Int) (b1 b2 : Bl) (ka kb kc kd m1 m2 m3 m4 ca cb x0 x1 x2 P1 P2 : Int) (sv1 pv1 sv2 lv hv : Bool) (PL : List Sp) (w : World) (gmv : 0 ≤ mv ∧ mv ≤ 255) (hmo : mv % 40 = mo) (hst : ∀ W, Calls Try.prog 6 #[.agg #[.int .u8 ((fv 0)), .int .u8 ((fv 1)), .int .u8 ((fv 2)), .int .u8 ((fv 3)), .int .u8 ((fv 4)), .int .u8 ((fv 5)), .int .u8 ((fv 6)), .int .u8 ((fv 7)), .int .u8 ((fv 8)), .int .u8 ((fv 9)), .int .u8 ((fv 10)), .int .u8 ((fv 11)), .int .u8 ((fv 12)), .int .u8 ((fv 13)), .int .u8 ((fv 14)), .int .u8 ((fv 15)), .int .u8 ((fv 16)), .int .u8 ((fv 17)), .int .u8 ((fv 18)), .int .u8 ((fv 19)), .int .u8 ((fv 20)), .int .u8 ((fv 21)), .int .u8 ((fv 22)), .int .u8 ((fv 23)), .int .u8 ((fv 24))]] W (StoOP ps qs W)) (hbox1 : ∀ W, Calls Try.prog 7 #[.agg #[.int .u8 ((fv 0)), .int .u8 ((fv 1)), .int .u8 ((fv 2)), .int .u8 ((fv 3)), .int .u8 ((fv 4)), .int .u8 ((fv 5)), .int .u8 ((fv 6)), .int .u8 ((fv 7)), .int .u8 ((fv 8)), .int .u8 ((fv 9)), .int .u8 ((fv 10)), .int .u8 ((fv 11)), .int .u8 ((fv 12)), .int .u8 ((fv 13)), .int .u8 ((fv 14)), .int .u8 ((fv 15)), .int .u8 ((fv 16)), .int .u8 ((fv 17)), .int .u8 ((fv 18)), .int .u8 ((fv 19)), .int .u8 ((fv 20)), .int .u8 ((fv 21)), .int .u8 ((fv 22)), .int .u8 ((fv 23)), .int .u8 ((fv 24))], .int .i64 mo] W (BoxOP tb1 lg1 wd1 hh1 fp1 fq1 sl1 W)) (hbox2 : ∀ W, Calls Try.prog 7 #[.agg #[.int .u8 ((fv 0)), .int .u8 ((fv 1)), .int .u8 ((fv 2)), .int .u8 ((fv 3)), .int .u8 ((fv 4)), .int .u8 ((fv 5)), .int .u8 ((fv 6)), .int .u8 ((fv 7)), .int .u8 ((fv 8)), .int .u8 ((fv 9)), .int .u8 ((fv 10)), .int .u8 ((fv 11)), .int .u8 ((fv 12)), .int .u8 ((fv 13)), .int .u8 ((fv 14)), .int .u8 ((fv 15)), .int .u8 ((fv 16)), .int .u8 ((fv 17)), .int .u8 ((fv 18)), .int .u8 ((fv 19)), .int .u8 ((fv 20)), .int .u8 ((fv 21)), .int .u8 ((fv 22)), .int .u8 ((fv 23)), .int .u8 ((fv 24))], .int .i64 0] W (BoxOP tb2 lg2 wd2 hh2 fp2 fq2 sl2 W)) (hI : FoldIn ps qs) (hb1 : (⟨tb1, [lg1, wd1, lg1, wd1], hh1, [fp1, fp1], [fp1, fq1], sl1, false⟩ : Bl) = b1) (hb2 : (⟨tb2, [lg2, wd2, lg2, wd2], hh2, [fp2, fp2], [fp2, fq2], sl2, false⟩ : Bl) = b2) (hck1 : checkErr b1 = 0) (hck2 : checkErr b2 = 0) (hT : ByV w ta tn bs) (hm1 : w1S (o1 (ps 0)) (o1 (ps 1)) (o1 (ps 2)) (qs 0) = m1) (hm2 : w1S (o2 (ps 0)) (o2 (ps 1)) (o2 (ps 2)) (qs 0) = m2) (hka : lo1 ps qs = ka) (hkb : hi1 ps qs = kb) (hm3 : w2S (o1 (ps 0)) (o1 (ps 1)) (o1 (ps 2)) (qs 0) (qs 1) = m3) (hm4 : w2S (o2 (ps 0)) (o2 (ps 1)) (o2 (ps 2)) (qs 0) (qs 1) = m4) (hkc : lo2 ps qs = kc) (hkd : hi2 ps qs = kd) (hca : cal1 ps qs tn bs = ca) (hcb : cal2 ps qs tn bs = cb) (gca : ka ≤ ca ∧ ca ≤ kb) (gcb : kc ≤ cb ∧ cb ≤ kd) (j1 : 1 ≤ ka) (j2 : ka ≤ kb) (j3 : kb ≤ 10000) (j4 : 1 ≤ kc) (j5 : kc ≤ kd) (j6 : kd ≤ 10000) (hPL : playL b1 b2 (ka, kb) (kc, kd) = PL) (hn4 : PL.length = 4) (hPL4 : ∀ i, i < 4 → nthP PL i = (P1, P2)) (hP1 : 1000 * (lg1 - lg2) - kb - kd = P1) (hP2 : 1000 * (lg1 - lg2) - ka - kc = P2) (hdd' : lg1 - lg2 = wd1 - wd2) (hx0 : (1000 * lg2 - kc) / 1000 = x0) (hx1 : (1000 * wd2 - kc) / 1000 = x1) (hx2 : (1000 * hh2 - 2 * kc) / 1000 = x2) (gx0 : 0 ≤ x0 ∧ x0 ≤ 3000) (gx1 : 0 ≤ x1 ∧ x1 ≤ 3000) (gx2 : 0 ≤ x2 ∧ x2 ≤ 3000) (hs2 : insideB b2 kd x0 x1 x2 = sv2) (hp2 : insideB b2 kc x0 x1 x2 = true) (hs1 : insideB b1 kb x0 x1 x2 = sv1) (hp1 : insideB b1 ka x0 x1 x2 = pv1) (gg1 : 0 ≤ lg1 ∧ lg1 ≤ 3000) (gg2 : 0 ≤ wd1 ∧ wd1 ≤ 3000) (gg3 : 0 ≤ hh1 ∧ hh1 ≤ 3000) (gg4 : 40 ≤ lg2 ∧ lg2 ≤ 3000) (gg5 : 40 ≤ wd2 ∧ wd2 ≤ 3000) (gg6 : 40 ≤ hh2 ∧ hh2 ≤ 3000) (hlo : decide (0 ≤ P1) = lv) (hhi : decide (1000 * x2 ≤ 1000 * hh1 - 2 * kb) = hv) (hfin : (!lv || !hv || sv1) = true) (g_ : Nat → Value) (W_ : World) (bk0 : Nat) (bk1 : Nat) (bk2 : Nat) (bk3 : Nat) (a162' : Option Addr) (c163' : Nat) (g1' : Nat) (c3' : Nat) (g2' : Nat) (c4' : Nat) (g7' : Nat) (c10' : Nat) (g8' : Nat) (c11' : Nat) (g9' : Nat) (c12' : Nat) (g16' : Nat) (c19' : Nat) (g17' : Nat) (c20' : Nat) (g18' : Nat) (c21' : Nat) (bk4 : Nat) (bk5 : Nat) (bk6 : Nat) (bk7 : Nat)  (k_6 : g_ 6 = .bool false) (k_8 : g_ 8 = .pointer (some ⟨bk0, 0, none⟩)) (k_9 : g_ 9 = .pointer (some ⟨bk1, 0, none⟩)) (k_11 : g_ 11 = .pointer (some ⟨bk2, 0, none⟩)) (k_14 : g_ 14 = .pointer (some ⟨bk3, 0, none⟩)) (k_20 : g_ 20 = .bool lv) (fB_ : Below w.heap.size w W_) (bl_0 : W_.heap[bk4]? = some (.cells #[.int .u8 ((fv 0)), .int .u8 ((fv 1)), .int .u8 ((fv 2)), .int .u8 ((fv 3)), .int .u8 ((fv 4)), .int .u8 ((fv 5)), .int .u8 ((fv 6)), .int .u8 ((fv 7)), .int .u8 ((fv 8)), .int .u8 ((fv 9)), .int .u8 ((fv 10)), .int .u8 ((fv 11)), .int .u8 ((fv 12)), .int .u8 ((fv 13)), .int .u8 ((fv 14)), .int .u8 ((fv 15)), .int .u8 ((fv 16)), .int .u8 ((fv 17)), .int .u8 ((fv 18)), .int .u8 ((fv 19)), .int .u8 ((fv 20)), .int .u8 ((fv 21)), .int .u8 ((fv 22)), .int .u8 ((fv 23)), .int .u8 ((fv 24))] 28 (0, 0))) (bl_1 : W_.heap[bk5]? = some (.cells #[.slice (some ⟨g1', 0, none⟩) (3) (c3'), .slice (some ⟨g2', 0, none⟩) (2) (c4')] 33 (0, 0))) (bl_2 : W_.heap[bk0]? = some (.cells #[.int .i64 tb1, .slice (some ⟨g7', 0, none⟩) (4) (c10'), .int .i64 hh1, .slice (some ⟨g8', 0, none⟩) (2) (c11'), .slice (some ⟨g9', 0, none⟩) (2) (c12'), .int .i64 sl1, .bool false] 37 (0, 0))) (bl_3 : W_.heap[bk1]? = some (.cells #[.int .i64 tb2, .slice (some ⟨g16', 0, none⟩) (4) (c19'), .int .i64 hh2, .slice (some ⟨g17', 0, none⟩) (2) (c20'), .slice (some ⟨g18', 0, none⟩) (2) (c21'), .int .i64 sl2, .bool false] 37 (0, 0))) (bl_4 : W_.heap[bk6]? = some (.cells #[.int .i64 m1, .int .i64 m2] 40 (0, 0))) (bl_5 : W_.heap[bk2]? = some (.cells #[.int .i64 ka, .int .i64 kb] 40 (0, 0))) (bl_6 : W_.heap[bk7]? = some (.cells #[.int .i64 m3, .int .i64 m4] 40 (0, 0))) (bl_7 : W_.heap[bk3]? = some (.cells #[.int .i64 kc, .int .i64 kd] 40 (0, 0))) (ft_0 : OwnR 68 8 0 3 (paCells3 ps) g1' c3' W_) (ft_1 : OwnR 70 4 0 2 (fuCells2 qs) g2' c4' W_) (ft_2 : OwnI 0 ([lg1, wd1, lg1, wd1]) g7' c10' W_) (ft_3 : OwnI 0 ([fp1, fp1]) g8' c11' W_) (ft_4 : OwnI 0 ([fp1, fq1]) g9' c12' W_) (ft_5 : OwnI 0 ([lg2, wd2, lg2, wd2]) g16' c19' W_) (ft_6 : OwnI 0 ([fp2, fp2]) g17' c20' W_) (ft_7 : OwnI 0 ([fp2, fq2]) g18' c21' W_) (ft_8 : Pp W_ a162' PL.length c163' PL) (lw_bk4 : w.heap.size ≤ bk4) (lw_bk5 : w.heap.size ≤ bk5) (lw_bk0 : w.heap.size ≤ bk0) (lw_bk1 : w.heap.size ≤ bk1) (lw_bk6 : w.heap.size ≤ bk6) (lw_bk2 : w.heap.size ≤ bk2) (lw_bk7 : w.heap.size ≤ bk7) (lw_bk3 : w.heap.size ≤ bk3) :
  (tailC 9 (bodyC Try.f3)).wp Try.prog (bodyPost Try.prog Try.f3 (fun e w' => e = .returned (.bool true) ∧ Below w.heap.size w w')) (fr 211 g_) W_ := by
 have hL4z : ((PL.length : Int) != 4) = false := by rw [hn4]; rfl
 have gmo : 0 ≤ mo ∧ mo ≤ 39 := by omega
 have lt_bk4 := lt_of_blk bl_0
 have lt_bk5 := lt_of_blk bl_1
 have lt_bk0 := lt_of_blk bl_2
 have lt_bk1 := lt_of_blk bl_3
 have lt_bk6 := lt_of_blk bl_4
 have lt_bk2 := lt_of_blk bl_5
 have lt_bk7 := lt_of_blk bl_6
 have lt_bk3 := lt_of_blk bl_7
 have lo_ft_2 := ft_2.lim
 have lo_ft_3 := ft_3.lim
 have lo_ft_4 := ft_4.lim
 have lo_ft_5 := ft_5.lim
 have lo_ft_6 := ft_6.lim
 have lo_ft_7 := ft_7.lim
 have lim223' := Pp.lim ft_8
 refine wp_seq_k fun K48 hK48 => ?_
 as_aux_lemma =>
 refine region_dk 28 [(126, 0), (127, 1), (128, 2), (129, 3), (130, 4), (131, 5), (132, 6), (133, 7), (134, 8), (135, 9), (136, 10), (137, 11), (138, 12), (139, 13), (140, 14), (141, 15), (142, 16), (143, 17), (144, 18), (145, 19), (146, 20), (147, 21), (148, 22), (149, 23), (150, 24), (151, 25), (152, 26), (23, 27)] [[], [0], [0, 1], [0, 1, 2], [0, 1, 2, 3], [], [5], [0, 1, 2, 3, 4, 5, 6], [0, 1, 2, 3, 4, 5, 6, 7], [], [9], [9, 10], [9, 10, 11], [9, 10, 11, 12], [], [14], [9, 10, 11, 12, 13, 14, 15], [9, 10, 11, 12, 13, 14, 15, 16], [], [18], [18, 19], [], [21], [21, 22], [18, 19, 20, 21, 22, 23], [18, 19, 20, 21, 22, 23, 24], [0, 1, 2, 3, 4, 5, 6, 7, 8, 9, 10, 11, 12, 13, 14, 15, 16, 17, 18, 19, 20, 21, 22, 23, 24, 25], [0, 1, 2, 3, 4, 5, 6, 7, 8, 9, 10, 11, 12, 13, 14, 15, 16, 17, 18, 19, 20, 21, 22, 23, 24, 25, 26]] (rel [is (.pointer (some ⟨bk1, 1, none⟩)),
   is (.slice (some ⟨g16', 0, none⟩) (4) (c19')),
   is (.pointer (some ⟨g16', 0, none⟩)),
   is (.int .i64 lg2),
   is (.int .i64 (1000 * lg2)),
   is (.pointer (some ⟨bk3, 0, none⟩)),
   is (.int .i64 kc),
   is (.int .i64 ((1000 * lg2) - kc)),
   is (.int .i64 x0),
   is (.pointer (some ⟨bk1, 1, none⟩)),
   is (.slice (some ⟨g16', 0, none⟩) (4) (c19')),
   is (.pointer (some ⟨g16', 1, none⟩)),
   is (.int .i64 wd2),
   is (.int .i64 (1000 * wd2)),
   is (.pointer (some ⟨bk3, 0, none⟩)),
   is (.int .i64 kc),
   is (.int .i64 ((1000 * wd2) - kc)),
   is (.int .i64 x1),
   is (.pointer (some ⟨bk1, 2, none⟩)),
   is (.int .i64 hh2),
   is (.int .i64 (1000 * hh2)),
   is (.pointer (some ⟨bk3, 0, none⟩)),
   is (.int .i64 kc),
   is (.int .i64 (2 * kc)),
   is (.int .i64 ((1000 * hh2) - (2 * kc))),
   is (.int .i64 x2),
   row 26 3 #[.int .i64 x0, .int .i64 x1, .int .i64 x2] 3,
   isS fun s => .slice (some ⟨(s 26), 0, none⟩) (3) (3)])
  ⟨is_k, is_k, is_k, is_k, is_k, is_k, is_k, is_k, is_k, is_k, is_k, is_k, is_k, is_k, is_k, is_k, is_k, is_k, is_k, is_k, is_k, is_k, is_k, is_k, is_k, is_k, row_k, isS_k fun s s' e => by rw [e 26 (by simp)], trivial⟩
  ⟨fun f s W g j l m n a => opv rfl rfl (by simp [go_sem, a.e 9 k_9]) rfl,
  fun f s W g j l m n a => opv rfl rfl (by simp [go_sem, a.e 126 (j 0 rfl), cl (blk_below bl_3 g) 1]) rfl,
  fun f s W g j l m n a => opv rfl rfl (by simp [go_sem, a.e 127 (j 1 rfl)]) rfl,
  fun f s W g j l m n a => by have u3_ : W.cell? ⟨g16', 0, none⟩ = some (.int .i64 (lg2)) := (OwnI.cell ((ft_5.below g)) (i := 0) (by simp)); exact opv rfl rfl (by simp [go_sem, a.e 128 (j 2 rfl), u3_]) rfl,
  fun f s W g j l m n a => opv rfl rfl (by simp [go_sem, a.e 129 (j 3 rfl), IntWalk.i64_in (1000 * lg2) (by omega)]) rfl,
  fun f s W g j l m n a => opv rfl rfl (by simp [go_sem, a.e 14 k_14]) rfl,
  fun f s W g j l m n a => opv rfl rfl (by simp [go_sem, a.e 131 (j 5 rfl), cl (blk_below bl_7 g) 0]) rfl,
  fun f s W g j l m n a => opv rfl rfl (by simp [go_sem, a.e 130 (j 4 rfl), a.e 132 (j 6 rfl), IntWalk.i64_in ((1000 * lg2) - kc) (by omega)]) rfl,
  fun f s W g j l m n a => by have qu_ : ((1000 * lg2) - kc).tdiv 1000 = x0 := (Int.tdiv_eq_ediv_of_nonneg (by omega)).trans hx0; have qw_ := IntWalk.i64_in x0 (by omega); exact opv rfl rfl (by simp [go_sem, a.e 133 (j 7 rfl), qu_, qw_]) rfl,
  fun f s W g j l m n a => opv rfl rfl (by simp [go_sem, a.e 9 k_9]) rfl,
  fun f s W g j l m n a => opv rfl rfl (by simp [go_sem, a.e 135 (j 9 rfl), cl (blk_below bl_3 g) 1]) rfl,
  fun f s W g j l m n a => opv rfl rfl (by simp [go_sem, a.e 136 (j 10 rfl)]) rfl,
  fun f s W g j l m n a => by have u12_ : W.cell? ⟨g16', 1, none⟩ = some (.int .i64 (wd2)) := (OwnI.cell ((ft_5.below g)) (i := 1) (by simp)); exact opv rfl rfl (by simp [go_sem, a.e 137 (j 11 rfl), u12_]) rfl,
  fun f s W g j l m n a => opv rfl rfl (by simp [go_sem, a.e 138 (j 12 rfl), IntWalk.i64_in (1000 * wd2) (by omega)]) rfl,
  fun f s W g j l m n a => opv rfl rfl (by simp [go_sem, a.e 14 k_14]) rfl,
  fun f s W g j l m n a => opv rfl rfl (by simp [go_sem, a.e 140 (j 14 rfl), cl (blk_below bl_7 g) 0]) rfl,
  fun f s W g j l m n a => opv rfl rfl (by simp [go_sem, a.e 139 (j 13 rfl), a.e 141 (j 15 rfl), IntWalk.i64_in ((1000 * wd2) - kc) (by omega)]) rfl,
  fun f s W g j l m n a => by have qu_ : ((1000 * wd2) - kc).tdiv 1000 = x1 := (Int.tdiv_eq_ediv_of_nonneg (by omega)).trans hx1; have qw_ := IntWalk.i64_in x1 (by omega); exact opv rfl rfl (by simp [go_sem, a.e 142 (j 16 rfl), qu_, qw_]) rfl,
  fun f s W g j l m n a => opv rfl rfl (by simp [go_sem, a.e 9 k_9]) rfl,
  fun f s W g j l m n a => opv rfl rfl (by simp [go_sem, a.e 144 (j 18 rfl), cl (blk_below bl_3 g) 2]) rfl,
  fun f s W g j l m n a => opv rfl rfl (by simp [go_sem, a.e 145 (j 19 rfl), IntWalk.i64_in (1000 * hh2) (by omega)]) rfl,
  fun f s W g j l m n a => opv rfl rfl (by simp [go_sem, a.e 14 k_14]) rfl,
  fun f s W g j l m n a => opv rfl rfl (by simp [go_sem, a.e 147 (j 21 rfl), cl (blk_below bl_7 g) 0]) rfl,
  fun f s W g j l m n a => opv rfl rfl (by simp [go_sem, a.e 148 (j 22 rfl), IntWalk.i64_in (2 * kc) (by omega)]) rfl,
  fun f s W g j l m n a => opv rfl rfl (by simp [go_sem, a.e 146 (j 20 rfl), a.e 149 (j 23 rfl), IntWalk.i64_in ((1000 * hh2) - (2 * kc)) (by omega)]) rfl,
  fun f s W g j l m n a => by have qu_ : ((1000 * hh2) - (2 * kc)).tdiv 1000 = x2 := (Int.tdiv_eq_ediv_of_nonneg (by omega)).trans hx2; have qw_ := IntWalk.i64_in x2 (by omega); exact opv rfl rfl (by simp [go_sem, a.e 150 (j 24 rfl), qu_, qw_]) rfl,
  fun f s W g j l m n a => opr rfl rfl (by simp [go_sem, a.e 134 (j 8 rfl), a.e 143 (j 17 rfl), a.e 151 (j 25 rfl)]),
  fun f s W g j l m n a => opv rfl rfl (by simp [go_sem, a.e 152 (j 26 rfl).1, upd]) rfl, trivial⟩ ?_
 intro f41 s41 W41 hB41 g41 hg41
 have fB41 := hB41.f fB_
 have z41 := hB41.below.size
 have b41_0 := hB41.b bl_0
 have b41_1 := hB41.b bl_1
 have b41_2 := hB41.b bl_2
 have b41_3 := hB41.b bl_3
 have b41_4 := hB41.b bl_4
 have b41_5 := hB41.b bl_5
 have b41_6 := hB41.b bl_6
 have b41_7 := hB41.b bl_7
 have q224' := (ft_0.below hB41.below)
 have q225' := (ft_1.below hB41.below)
 have q226' := (ft_2.below hB41.below)
 have q227' := (ft_3.below hB41.below)
 have q228' := (ft_4.below hB41.below)
 have q229' := (ft_5.below hB41.below)
 have q230' := (ft_6.below hB41.below)
 have q231' := (ft_7.below hB41.below)
 have q232' := (ft_8.bw hB41)
 obtain ⟨r41_26, br41_26⟩ := hB41.is 26
 have lr41_26 := hB41.lr 26 br41_26
 refine hK48 _ _ ?_
 have k41_6 := kt hg41 6 k_6
 have k41_8 := kt hg41 8 k_8
 have k41_9 := kt hg41 9 k_9
 have k41_11 := kt hg41 11 k_11
 have k41_14 := kt hg41 14 k_14
 have k41_20 := kt hg41 20 k_20
 have k41_23 := kt hg41 23 (hB41.is 27)
 refine wp_seq_k fun K49 hK49 => ?_
 as_aux_lemma =>
 refine region_dk 13 [(154, 0), (155, 1), (156, 2), (157, 3), (158, 4), (159, 5), (153, 6), (160, 7), (161, 8), (162, 9), (24, 10), (25, 11), (26, 12)] [[], [0], [], [], [0, 1, 3], [0, 1, 2, 3, 4], [0, 1, 2, 3, 4, 5], [0, 1, 2, 3, 4, 5, 6], [0, 1, 2, 3, 4, 5, 6], [0, 1, 2, 3, 4, 5, 6], [0, 1, 2, 3, 4, 5, 6, 7], [0, 1, 2, 3, 4, 5, 6, 7, 8, 10], [0, 1, 2, 3, 4, 5, 6, 7, 8, 9, 10, 11]] (rel [is (.agg #[.int .i64 tb2, .slice (some ⟨g16', 0, none⟩) (4) (c19'), .int .i64 hh2, .slice (some ⟨g17', 0, none⟩) (2) (c20'), .slice (some ⟨g18', 0, none⟩) (2) (c21'), .int .i64 sl2, .bool false]),
   ab fun v W => NwBlk 0 (b2) v W,
   is (.agg #[.int .i64 kc, .int .i64 kd]),
   is (.slice (some ⟨(s41 26), 0, none⟩) (3) (3)),
   fun v s W => OwI (s 4) ([x0, x1, x2]) 3 v W,
   is (.tuple #[.bool sv2, .bool true, .int .i64 0]),
   is (.tuple #[.bool sv2, .bool true, .int .i64 0]),
   is (.bool sv2),
   is (.bool true),
   is (.int .i64 0),
   is (.bool sv2),
   is (.bool true),
   is (.int .i64 0)])
  ⟨is_k, ab_k fun v W W' hb h => h.below hb, is_k, is_k, ⟨fun v k W W' hb h => h.below hb, fun v s s' W e h => by have h' : OwI (s 4) ([x0, x1, x2]) 3 v W := h; show OwI (s' 4) ([x0, x1, x2]) 3 v W; rw [← e 4 (by simp)]; exact h'⟩, is_k, is_k, is_k, is_k, is_k, is_k, is_k, is_k, trivial⟩
  ⟨fun f s W g j l m n a => opl rfl rfl rfl (a.v 9 k41_9) (blk_below b41_3 g) Try.underlying37 rfl (by kernel_rfl) rfl,
  fun f s W g j l m n a => opDo_call (args := #[.agg #[.int .i64 tb2, .slice (some ⟨g16', 0, none⟩) (4) (c19'), .int .i64 hh2, .slice (some ⟨g17', 0, none⟩) (2) (c20'), .slice (some ⟨g18', 0, none⟩) (2) (c21'), .int .i64 sl2, .bool false]]) rfl rfl (by simp [go_sem, a.e 154 (j 0 rfl)]) (pubBlank_any _ _ _ _ _ _ (⟨tb2, [lg2, wd2, lg2, wd2], hh2, [fp2, fp2], [fp2, fq2], sl2, false⟩ : Bl) W ((q229'.below g)).ii ((q230'.below g)).ii ((q231'.below g)).ii (show 4 ≤ 1000 by decide) (show 2 ≤ 1000 by decide) (show 2 ≤ 1000 by decide)) ((fun e W' h => by obtain ⟨v, e1, h1, h2⟩ := h; rw [hb2] at h1; exact ⟨_, e1, h2, h1.low (Nat.zero_le _)⟩)),
  fun f s W g j l m n a => opv rfl rfl (by simp [go_sem, a.e 14 k41_14, cl (blk_below b41_7 g) 0, cl (blk_below b41_7 g) 1]) rfl,
  fun f s W g j l m n a => opv rfl rfl (by simp [go_sem, a.e 23 k41_23]) rfl,
  fun f s W g j l m n a => opDo_call rfl rfl (by simp [go_sem, a.e 157 (j 3 rfl)]) (pubInts_own (some ⟨(s41 26), 0, none⟩) 3 3 [x0, x1, x2] W (ii_block (xs := [x0, x1, x2]) (blk_below br41_26 g) rfl rfl) (by decide) (by decide)) (fun e W' h => by obtain ⟨v, e1, h1, h2⟩ := h; exact ⟨v, e1, h2, (show OwI (upd s 4 W.heap.size 4) ([x0, x1, x2]) 3 v W' from by rw [upd_at]; exact h1)⟩),
  fun f s W g j l m n a => by obtain ⟨g233', c236', g234', c237', g235', c238', d1, ⟨q239', q241', q240'⟩, ⟨q242', q244', q243'⟩, ⟨q245', q247', q246'⟩⟩ := (j 1 rfl); obtain ⟨g248', c249', d4, q250'⟩ := (j 4 rfl); exact opc (args := #[.agg #[.int .i64 b2.tab, .slice (some ⟨g233', 0, none⟩) (b2.panels.length) (c236'), .int .i64 b2.height, .slice (some ⟨g234', 0, none⟩) (b2.top.length) (c237'), .slice (some ⟨g235', 0, none⟩) (b2.bottom.length) (c238'), .int .i64 b2.slot, .bool b2.isOpen], .agg #[.int .i64 kc, .int .i64 kd], .slice (some ⟨g248', 0, none⟩) (3) (c249')]) rfl rfl (by simp [go_sem, a.e 155 d1, a.e 156 (j 2 rfl), a.e 158 d4]) (holds_in (b := b2) (lo := kc) (hi := kd) W ⟨_, _, _, _, _, _, _, _, _, rfl, q239', q242', q245'⟩ q250'.ii hck2 j4 j5 j6 gx0 gx1 gx2 hs2 hp2),
  fun f s W g j l m n a => opv rfl rfl (by simp [go_sem, a.e 159 (j 5 rfl)]) rfl,
  fun f s W g j l m n a => opv rfl rfl (by simp [go_sem, a.e 153 (j 6 rfl)]) rfl,
  fun f s W g j l m n a => opv rfl rfl (by simp [go_sem, a.e 153 (j 6 rfl)]) rfl,
  fun f s W g j l m n a => opv rfl rfl (by simp [go_sem, a.e 153 (j 6 rfl)]) rfl,
  fun f s W g j l m n a => opv rfl rfl (by simp [go_sem, a.e 160 (j 7 rfl)]) rfl,
  fun f s W g j l m n a => opv rfl rfl (by simp [go_sem, a.e 161 (j 8 rfl)]) rfl,
  fun f s W g j l m n a => opv rfl rfl (by simp [go_sem, a.e 162 (j 9 rfl)]) rfl, trivial⟩ ?_
 intro f42 s42 W42 hB42 g42 hg42
 have fB42 := hB42.f fB41
 have z42 := hB42.below.size
 have b42_0 := hB42.b b41_0
 have b42_1 := hB42.b b41_1
 have b42_2 := hB42.b b41_2
 have b42_3 := hB42.b b41_3
 have b42_4 := hB42.b b41_4
 have b42_5 := hB42.b b41_5
 have b42_6 := hB42.b b41_6
 have b42_7 := hB42.b b41_7
 have b42_8 := hB42.b br41_26
 have q251' := (q224'.below hB42.below)
 have q252' := (q225'.below hB42.below)
 have q253' := (q226'.below hB42.below)
 have q254' := (q227'.below hB42.below)
 have q255' := (q228'.below hB42.below)
 have q256' := (q229'.below hB42.below)
 have q257' := (q230'.below hB42.below)
 have q258' := (q231'.below hB42.below)
 have q259' := (q232'.bw hB42)
 refine hK49 _ _ ?_
 have k42_6 := kt hg42 6 k41_6
 have k42_8 := kt hg42 8 k41_8
 have k42_11 := kt hg42 11 k41_11
 have k42_20 := kt hg42 20 k41_20
 have k42_23 := kt hg42 23 k41_23
 have k42_25 := kt hg42 25 (hB42.is 11)
 have k42_26 := kt hg42 26 (hB42.is 12)
 refine wp_seq_k fun K50 hK50 => ?_
 as_aux_lemma =>
 refine region_dk 13 [(164, 0), (165, 1), (166, 2), (167, 3), (168, 4), (169, 5), (163, 6), (170, 7), (171, 8), (172, 9), (27, 10), (28, 11), (29, 12)] [[], [0], [], [], [0, 1, 3], [0, 1, 2, 3, 4], [0, 1, 2, 3, 4, 5], [0, 1, 2, 3, 4, 5, 6], [0, 1, 2, 3, 4, 5, 6], [0, 1, 2, 3, 4, 5, 6], [0, 1, 2, 3, 4, 5, 6, 7], [0, 1, 2, 3, 4, 5, 6, 7, 8, 10], [0, 1, 2, 3, 4, 5, 6, 7, 8, 9, 10, 11]] (rel [is (.agg #[.int .i64 tb1, .slice (some ⟨g7', 0, none⟩) (4) (c10'), .int .i64 hh1, .slice (some ⟨g8', 0, none⟩) (2) (c11'), .slice (some ⟨g9', 0, none⟩) (2) (c12'), .int .i64 sl1, .bool false]),
   ab fun v W => NwBlk 0 (b1) v W,
   is (.agg #[.int .i64 ka, .int .i64 kb]),
   is (.slice (some ⟨(s41 26), 0, none⟩) (3) (3)),
   fun v s W => OwI (s 4) ([x0, x1, x2]) 3 v W,
   is (.tuple #[.bool sv1, .bool pv1, .int .i64 0]),
   is (.tuple #[.bool sv1, .bool pv1, .int .i64 0]),
   is (.bool sv1),
   is (.bool pv1),
   is (.int .i64 0),
   is (.bool sv1),
   is (.bool pv1),
   is (.int .i64 0)])
  ⟨is_k, ab_k fun v W W' hb h => h.below hb, is_k, is_k, ⟨fun v k W W' hb h => h.below hb, fun v s s' W e h => by have h' : OwI (s 4) ([x0, x1, x2]) 3 v W := h; show OwI (s' 4) ([x0, x1, x2]) 3 v W; rw [← e 4 (by simp)]; exact h'⟩, is_k, is_k, is_k, is_k, is_k, is_k, is_k, is_k, trivial⟩
  ⟨fun f s W g j l m n a => opl rfl rfl rfl (a.v 8 k42_8) (blk_below b42_2 g) Try.underlying37 rfl (by kernel_rfl) rfl,
  fun f s W g j l m n a => opDo_call (args := #[.agg #[.int .i64 tb1, .slice (some ⟨g7', 0, none⟩) (4) (c10'), .int .i64 hh1, .slice (some ⟨g8', 0, none⟩) (2) (c11'), .slice (some ⟨g9', 0, none⟩) (2) (c12'), .int .i64 sl1, .bool false]]) rfl rfl (by simp [go_sem, a.e 164 (j 0 rfl)]) (pubBlank_any _ _ _ _ _ _ (⟨tb1, [lg1, wd1, lg1, wd1], hh1, [fp1, fp1], [fp1, fq1], sl1, false⟩ : Bl) W ((q253'.below g)).ii ((q254'.below g)).ii ((q255'.below g)).ii (show 4 ≤ 1000 by decide) (show 2 ≤ 1000 by decide) (show 2 ≤ 1000 by decide)) ((fun e W' h => by obtain ⟨v, e1, h1, h2⟩ := h; rw [hb1] at h1; exact ⟨_, e1, h2, h1.low (Nat.zero_le _)⟩)),
  fun f s W g j l m n a => opv rfl rfl (by simp [go_sem, a.e 11 k42_11, cl (blk_below b42_5 g) 0, cl (blk_below b42_5 g) 1]) rfl,
  fun f s W g j l m n a => opv rfl rfl (by simp [go_sem, a.e 23 k42_23]) rfl,
  fun f s W g j l m n a => opDo_call rfl rfl (by simp [go_sem, a.e 167 (j 3 rfl)]) (pubInts_own (some ⟨(s41 26), 0, none⟩) 3 3 [x0, x1, x2] W (ii_block (xs := [x0, x1, x2]) (blk_below b42_8 g) rfl rfl) (by decide) (by decide)) (fun e W' h => by obtain ⟨v, e1, h1, h2⟩ := h; exact ⟨v, e1, h2, (show OwI (upd s 4 W.heap.size 4) ([x0, x1, x2]) 3 v W' from by rw [upd_at]; exact h1)⟩),
  fun f s W g j l m n a => by obtain ⟨g260', c263', g261', c264', g262', c265', d1, ⟨q266', q268', q267'⟩, ⟨q269', q271', q270'⟩, ⟨q272', q274', q273'⟩⟩ := (j 1 rfl); obtain ⟨g275', c276', d4, q277'⟩ := (j 4 rfl); exact opc (args := #[.agg #[.int .i64 b1.tab, .slice (some ⟨g260', 0, none⟩) (b1.panels.length) (c263'), .int .i64 b1.height, .slice (some ⟨g261', 0, none⟩) (b1.top.length) (c264'), .slice (some ⟨g262', 0, none⟩) (b1.bottom.length) (c265'), .int .i64 b1.slot, .bool b1.isOpen], .agg #[.int .i64 ka, .int .i64 kb], .slice (some ⟨g275', 0, none⟩) (3) (c276')]) rfl rfl (by simp [go_sem, a.e 165 d1, a.e 166 (j 2 rfl), a.e 168 d4]) (holds_in (b := b1) (lo := ka) (hi := kb) W ⟨_, _, _, _, _, _, _, _, _, rfl, q266', q269', q272'⟩ q277'.ii hck1 j1 j2 j3 gx0 gx1 gx2 hs1 hp1),
  fun f s W g j l m n a => opv rfl rfl (by simp [go_sem, a.e 169 (j 5 rfl)]) rfl,
  fun f s W g j l m n a => opv rfl rfl (by simp [go_sem, a.e 163 (j 6 rfl)]) rfl,
  fun f s W g j l m n a => opv rfl rfl (by simp [go_sem, a.e 163 (j 6 rfl)]) rfl,
  fun f s W g j l m n a => opv rfl rfl (by simp [go_sem, a.e 163 (j 6 rfl)]) rfl,
  fun f s W g j l m n a => opv rfl rfl (by simp [go_sem, a.e 170 (j 7 rfl)]) rfl,
  fun f s W g j l m n a => opv rfl rfl (by simp [go_sem, a.e 171 (j 8 rfl)]) rfl,
  fun f s W g j l m n a => opv rfl rfl (by simp [go_sem, a.e 172 (j 9 rfl)]) rfl, trivial⟩ ?_
 intro f43 s43 W43 hB43 g43 hg43
 have fB43 := hB43.f fB42
 have z43 := hB43.below.size
 have b43_0 := hB43.b b42_0
 have b43_1 := hB43.b b42_1
 have b43_2 := hB43.b b42_2
 have b43_3 := hB43.b b42_3
 have b43_4 := hB43.b b42_4
 have b43_5 := hB43.b b42_5
 have b43_6 := hB43.b b42_6
 have b43_7 := hB43.b b42_7
 have b43_8 := hB43.b b42_8
 have q278' := (q251'.below hB43.below)
 have q279' := (q252'.below hB43.below)
 have q280' := (q253'.below hB43.below)
 have q281' := (q254'.below hB43.below)
 have q282' := (q255'.below hB43.below)
 have q283' := (q256'.below hB43.below)
 have q284' := (q257'.below hB43.below)
 have q285' := (q258'.below hB43.below)
 have q286' := (q259'.bw hB43)
 refine hK50 _ _ ?_
 have k43_6 := kt hg43 6 k42_6
 have k43_8 := kt hg43 8 k42_8
 have k43_11 := kt hg43 11 k42_11
 have k43_20 := kt hg43 20 k42_20
 have k43_23 := kt hg43 23 k42_23
 have k43_25 := kt hg43 25 k42_25
 have k43_26 := kt hg43 26 k42_26
 have k43_27 := kt hg43 27 (hB43.is 10)
 have k43_29 := kt hg43 29 (hB43.is 12)
 refine wp_seq_k fun K51 hK51 => ?_
 as_aux_lemma =>
 refine region_dk 13 [(173, 0), (174, 1), (175, 2), (176, 3), (177, 4), (178, 5), (179, 6), (180, 7), (181, 8), (182, 9), (183, 10), (184, 11), (30, 12)] [[], [0], [0, 1], [], [3], [3, 4], [0, 1, 2, 3, 4, 5], [], [7], [7, 8], [7, 8, 9], [0, 1, 2, 3, 4, 5, 6, 7, 8, 9, 10], [0, 1, 2, 3, 4, 5, 6, 7, 8, 9, 10, 11]] (rel [is (.pointer (some ⟨bk0, 2, none⟩)),
   is (.int .i64 hh1),
   is (.int .i64 (1000 * hh1)),
   is (.pointer (some ⟨bk2, 1, none⟩)),
   is (.int .i64 kb),
   is (.int .i64 (2 * kb)),
   is (.int .i64 ((1000 * hh1) - (2 * kb))),
   is (.slice (some ⟨(s41 26), 0, none⟩) (3) (3)),
   is (.pointer (some ⟨(s41 26), 2, none⟩)),
   is (.int .i64 x2),
   is (.int .i64 (1000 * x2)),
   is (.bool hv),
   is (.bool hv)])
  ⟨is_k, is_k, is_k, is_k, is_k, is_k, is_k, is_k, is_k, is_k, is_k, is_k, is_k, trivial⟩
  ⟨fun f s W g j l m n a => opv rfl rfl (by simp [go_sem, a.e 8 k43_8]) rfl,
  fun f s W g j l m n a => opv rfl rfl (by simp [go_sem, a.e 173 (j 0 rfl), cl (blk_below b43_2 g) 2]) rfl,
  fun f s W g j l m n a => opv rfl rfl (by simp [go_sem, a.e 174 (j 1 rfl), IntWalk.i64_in (1000 * hh1) (by omega)]) rfl,
  fun f s W g j l m n a => opv rfl rfl (by simp [go_sem, a.e 11 k43_11]) rfl,
  fun f s W g j l m n a => opv rfl rfl (by simp [go_sem, a.e 176 (j 3 rfl), cl (blk_below b43_5 g) 1]) rfl,
  fun f s W g j l m n a => opv rfl rfl (by simp [go_sem, a.e 177 (j 4 rfl), IntWalk.i64_in (2 * kb) (by omega)]) rfl,
  fun f s W g j l m n a => opv rfl rfl (by simp [go_sem, a.e 175 (j 2 rfl), a.e 178 (j 5 rfl), IntWalk.i64_in ((1000 * hh1) - (2 * kb)) (by omega)]) rfl,
  fun f s W g j l m n a => opv rfl rfl (by simp [go_sem, a.e 23 k43_23]) rfl,
  fun f s W g j l m n a => opv rfl rfl (by simp [go_sem, a.e 180 (j 7 rfl)]) rfl,
  fun f s W g j l m n a => opv rfl rfl (by simp [go_sem, a.e 181 (j 8 rfl), cl (blk_below b43_8 g) 2]) rfl,
  fun f s W g j l m n a => opv rfl rfl (by simp [go_sem, a.e 182 (j 9 rfl), IntWalk.i64_in (1000 * x2) (by omega)]) rfl,
  fun f s W g j l m n a => opv rfl rfl (by simp [go_sem, a.e 179 (j 6 rfl), a.e 183 (j 10 rfl), hhi]) rfl,
  fun f s W g j l m n a => opv rfl rfl (by simp [go_sem, a.e 184 (j 11 rfl)]) rfl, trivial⟩ ?_
 intro f44 s44 W44 hB44 g44 hg44
 have fB44 := hB44.f fB43
 have z44 := hB44.below.size
 have b44_0 := hB44.b b43_0
 have b44_1 := hB44.b b43_1
 have b44_2 := hB44.b b43_2
 have b44_3 := hB44.b b43_3
 have b44_4 := hB44.b b43_4
 have b44_5 := hB44.b b43_5
 have b44_6 := hB44.b b43_6
 have b44_7 := hB44.b b43_7
 have b44_8 := hB44.b b43_8
 have q287' := (q278'.below hB44.below)
 have q288' := (q279'.below hB44.below)
 have q289' := (q280'.below hB44.below)
 have q290' := (q281'.below hB44.below)
 have q291' := (q282'.below hB44.below)
 have q292' := (q283'.below hB44.below)
 have q293' := (q284'.below hB44.below)
 have q294' := (q285'.below hB44.below)
 have q295' := (q286'.bw hB44)
 refine hK51 _ _ ?_
 have k44_6 := kt hg44 6 k43_6
 have k44_20 := kt hg44 20 k43_20
 have k44_25 := kt hg44 25 k43_25
 have k44_26 := kt hg44 26 k43_26
 have k44_27 := kt hg44 27 k43_27
 have k44_29 := kt hg44 29 k43_29
 have k44_30 := kt hg44 30 (hB44.is 12)
 refine wp_seq_k fun K52 hK52 => ?_
 as_aux_lemma =>
 refine region_dk 27 [(185, 0), (186, 1), (187, 2), (188, 3), (189, 4), (190, 5), (191, 6), (192, 7), (193, 8), (194, 9), (195, 10), (196, 11), (197, 12), (198, 13), (199, 14), (200, 15), (201, 16), (202, 17), (203, 18), (204, 19), (205, 20), (206, 21), (207, 22), (208, 23), (209, 24), (210, 25), (6, 26)] [[], [0], [0, 1], [0, 1, 2], [0, 1, 2, 3], [0, 1, 2, 3, 4], [0, 1, 2, 3, 4, 5], [0, 1, 2, 3, 4, 5, 6], [0, 1, 2, 3, 4, 5, 6, 7], [0, 1, 2, 3, 4, 5, 6, 7, 8], [0, 1, 2, 3, 4, 5, 6, 7, 8, 9], [0, 1, 2, 3, 4, 5, 6, 7, 8, 9, 10], [0, 1, 2, 3, 4, 5, 6, 7, 8, 9, 10, 11], [0, 1, 2, 3, 4, 5, 6, 7, 8, 9, 10, 11, 12], [0, 1, 2, 3, 4, 5, 6, 7, 8, 9, 10, 11, 12, 13], [0, 1, 2, 3, 4, 5, 6, 7, 8, 9, 10, 11, 12, 13, 14], [0, 1, 2, 3, 4, 5, 6, 7, 8, 9, 10, 11, 12, 13, 14, 15], [0, 1, 2, 3, 4, 5, 6, 7, 8, 9, 10, 11, 12, 13, 14, 15, 16], [0, 1, 2, 3, 4, 5, 6, 7, 8, 9, 10, 11, 12, 13, 14, 15, 16, 17], [0, 1, 2, 3, 4, 5, 6, 7, 8, 9, 10, 11, 12, 13, 14, 15, 16, 17, 18], [0, 1, 2, 3, 4, 5, 6, 7, 8, 9, 10, 11, 12, 13, 14, 15, 16, 17, 18, 19], [0, 1, 2, 3, 4, 5, 6, 7, 8, 9, 10, 11, 12, 13, 14, 15, 16, 17, 18, 19, 20], [0, 1, 2, 3, 4, 5, 6, 7, 8, 9, 10, 11, 12, 13, 14, 15, 16, 17, 18, 19, 20, 21], [0, 1, 2, 3, 4, 5, 6, 7, 8, 9, 10, 11, 12, 13, 14, 15, 16, 17, 18, 19, 20, 21, 22], [0, 1, 2, 3, 4, 5, 6, 7, 8, 9, 10, 11, 12, 13, 14, 15, 16, 17, 18, 19, 20, 21, 22, 23], [0, 1, 2, 3, 4, 5, 6, 7, 8, 9, 10, 11, 12, 13, 14, 15, 16, 17, 18, 19, 20, 21, 22, 23, 24], [0, 1, 2, 3, 4, 5, 6, 7, 8, 9, 10, 11, 12, 13, 14, 15, 16, 17, 18, 19, 20, 21, 22, 23, 24, 25]] (rel [is (.int .i64 0),
   is (.bool true),
   is (.bool true),
   is (.int .i64 0),
   is (.bool true),
   is (.bool true),
   is (.bool true),
   is (.bool true),
   is (.bool true),
   is (.bool true),
   is (.bool lv),
   is (.bool (!lv)),
   is (.bool (!lv)),
   gd (!lv) false (is (.bool hv)),
   gd (!lv) false (is (.bool (!hv))),
   is (.bool ((!lv) || (!hv))),
   is (.bool ((!lv) || (!hv))),
   gd ((!lv) || (!hv)) false (is (.bool sv1)),
   is (.bool (((!lv) || (!hv)) || sv1)),
   is (.bool (((!lv) || (!hv)) || sv1)),
   is (.bool (((!lv) || (!hv)) || sv1)),
   gd (((!lv) || (!hv)) || sv1) true (is (.bool true)),
   is (.bool (((!lv) || (!hv)) || sv1)),
   is (.bool (((!lv) || (!hv)) || sv1)),
   gd (((!lv) || (!hv)) || sv1) true (is (.bool true)),
   is (.bool (((!lv) || (!hv)) || sv1)),
   is (.bool (((!lv) || (!hv)) || sv1))])
  ⟨is_k, is_k, is_k, is_k, is_k, is_k, is_k, is_k, is_k, is_k, is_k, is_k, is_k, gd_k (is_k), gd_k (is_k), is_k, is_k, gd_k (is_k), is_k, is_k, is_k, gd_k (is_k), is_k, is_k, gd_k (is_k), is_k, is_k, trivial⟩
  ⟨fun f s W g j l m n a => opv rfl rfl (by simp [go_sem, a.e 26 k44_26]) rfl,
  fun f s W g j l m n a => opv rfl rfl (by simp [go_sem, a.e 185 (j 0 rfl)]) rfl,
  fun f s W g j l m n a => opv rfl rfl (by simp [go_sem, a.e 186 (j 1 rfl)]) rfl,
  fun f s W g j l m n a => osure rfl rfl (a.says (d := 187) rfl rfl (j 2 rfl)) (gv (by simp [go_sem, a.e 29 k44_29]) rfl),
  fun f s W g j l m n a => osure rfl rfl (a.says (d := 187) rfl rfl (j 2 rfl)) (gv (by simp [go_sem, a.e 188 (j 3 rfl)]) rfl),
  fun f s W g j l m n a => opk (c := true) rfl rfl (fun h => absurd h (by decide)) (fun _ => by simp [go_sem, a.e 187 (j 2 rfl), a.e 189 (j 4 rfl)]),
  fun f s W g j l m n a => opv rfl rfl (by simp [go_sem, a.e 190 (j 5 rfl)]) rfl,
  fun f s W g j l m n a => osure rfl rfl (a.says (d := 191) rfl rfl (j 6 rfl)) (gv (by simp [go_sem, a.e 25 k44_25]) rfl),
  fun f s W g j l m n a => opk (c := true) rfl rfl (fun h => absurd h (by decide)) (fun _ => by simp [go_sem, a.e 191 (j 6 rfl), a.e 192 (j 7 rfl)]),
  fun f s W g j l m n a => opv rfl rfl (by simp [go_sem, a.e 193 (j 8 rfl)]) rfl,
  fun f s W g j l m n a => osure rfl rfl (a.says (d := 194) rfl rfl (j 9 rfl)) (gv (by simp [go_sem, a.e 20 k44_20]) rfl),
  fun f s W g j l m n a => osure rfl rfl (a.says (d := 194) rfl rfl (j 9 rfl)) (gv (by simp [go_sem, a.e 195 (j 10 rfl)]) rfl),
  fun f s W g j l m n a => osure rfl rfl (a.says (d := 194) rfl rfl (j 9 rfl)) (gv (by simp [go_sem, a.e 196 (j 11 rfl)]) rfl),
  fun f s W g j l m n a => gdo rfl rfl (a.says (d := 197) rfl rfl (j 12 rfl)) fun hgd0 => gv (by simp [go_sem, a.e 30 k44_30]) rfl,
  fun f s W g j l m n a => gdo rfl rfl (a.says (d := 197) rfl rfl (j 12 rfl)) fun hgd0 => gv (by simp [go_sem, a.e 198 ((j 13 rfl).1 hgd0)]) rfl,
  fun f s W g j l m n a => osure rfl rfl (a.says (d := 194) rfl rfl (j 9 rfl)) (gk (c := !lv) (fun hpk => by simp [go_sem, hpk, a.e 197 (j 12 rfl), a.e 199 ((j 14 rfl).1 hpk)]) (fun hpk => by simp [go_sem, hpk, a.e 197 (j 12 rfl)])),
  fun f s W g j l m n a => osure rfl rfl (a.says (d := 194) rfl rfl (j 9 rfl)) (gv (by simp [go_sem, a.e 200 (j 15 rfl)]) rfl),
  fun f s W g j l m n a => gdo rfl rfl (a.says (d := 201) rfl rfl (j 16 rfl)) fun hgd0 => gv (by simp [go_sem, a.e 27 k44_27]) rfl,
  fun f s W g j l m n a => osure rfl rfl (a.says (d := 194) rfl rfl (j 9 rfl)) (gk (c := (!lv) || (!hv)) (fun hpk => by simp [go_sem, hpk, a.e 201 (j 16 rfl), a.e 202 ((j 17 rfl).1 hpk)]) (fun hpk => by simp [go_sem, hpk, a.e 201 (j 16 rfl)])),
  fun f s W g j l m n a => opk (c := true) rfl rfl (fun h => absurd h (by decide)) (fun _ => by simp [go_sem, a.e 194 (j 9 rfl), a.e 203 (j 18 rfl)]),
  fun f s W g j l m n a => opv rfl rfl (by simp [go_sem, a.e 204 (j 19 rfl)]) rfl,
  fun f s W g j l m n a => gdo rfl rfl (a.says (d := 205) rfl rfl (j 20 rfl)) fun hgd0 => gc (by simp [go_sem]) (pubBoard_yes W),
  fun f s W g j l m n a => opk (c := ((!lv) || (!hv)) || sv1) rfl rfl (fun hpk => by simp [go_sem, hpk, a.e 205 (j 20 rfl)]) (fun hpk => by simp [go_sem, hpk, a.e 205 (j 20 rfl), a.e 206 ((j 21 rfl).1 hpk)]),
  fun f s W g j l m n a => opv rfl rfl (by simp [go_sem, a.e 207 (j 22 rfl)]) rfl,
  fun f s W g j l m n a => gdo rfl rfl (a.says (d := 208) rfl rfl (j 23 rfl)) fun hgd0 => gc (by simp [go_sem]) (pubScore_yes W),
  fun f s W g j l m n a => opk (c := ((!lv) || (!hv)) || sv1) rfl rfl (fun hpk => by simp [go_sem, hpk, a.e 208 (j 23 rfl)]) (fun hpk => by simp [go_sem, hpk, a.e 208 (j 23 rfl), a.e 209 ((j 24 rfl).1 hpk)]),
  fun f s W g j l m n a => opv rfl rfl (by simp [go_sem, a.e 210 (j 25 rfl)]) rfl, trivial⟩ ?_
 intro f45 s45 W45 hB45 g45 hg45
 have fB45 := hB45.f fB44
 have z45 := hB45.below.size
 have b45_0 := hB45.b b44_0
 have b45_1 := hB45.b b44_1
 have b45_2 := hB45.b b44_2
 have b45_3 := hB45.b b44_3
 have b45_4 := hB45.b b44_4
 have b45_5 := hB45.b b44_5
 have b45_6 := hB45.b b44_6
 have b45_7 := hB45.b b44_7
 have b45_8 := hB45.b b44_8
 have q296' := (q287'.below hB45.below)
 have q297' := (q288'.below hB45.below)
 have q298' := (q289'.below hB45.below)
 have q299' := (q290'.below hB45.below)
 have q300' := (q291'.below hB45.below)
 have q301' := (q292'.below hB45.below)
 have q302' := (q293'.below hB45.below)
 have q303' := (q294'.below hB45.below)
 have q304' := (q295'.bw hB45)
 refine hK52 _ _ ?_
 have k45_6 := kt hg45 6 (hB45.is 26)
 refine wp_ret ?_
 refine leave_one (N := 211) (v := .bool (((!lv) || (!hv)) || sv1)) (.inr rfl) Try.results3 rfl k45_6 ?_
 exact ⟨by rw [show (((!lv) || (!hv)) || sv1) = true from (by revert hfin; cases lv <;> cases hv <;> cases sv1 <;> simp)], fB45⟩
end Go.Proofs.Ytiocklgakklkpaa
