/- Part of the proof: what the claim leans on. -/
import Derived.Test.YtiocklgakklkpaaTAX
set_option linter.unusedSimpArgs false
set_option linter.unusedVariables false
namespace Go.Proofs.Ytiocklgakklkpaa
open Go.RowKit
set_option maxRecDepth 100000 in
set_option maxHeartbeats 40000000 in
theorem thin_main_c6 (fv tv : Nat → Int) (ps : Nat → Pa) (qs : Nat → Fu) (tb lg wd hh fp fq sl : Int) (b : Bl) (ka kb kc kd m1 m2 m3 m4 : Int) (sa pa sc pd : Bool) (L9 M9 : List Sp) (w : World) (gtv : ∀ k, 0 ≤ tv k ∧ tv k ≤ 255) (hst : ∀ W, Calls Try.prog 6 #[.agg #[.int .u8 ((fv 0)), .int .u8 ((fv 1)), .int .u8 ((fv 2)), .int .u8 ((fv 3)), .int .u8 ((fv 4)), .int .u8 ((fv 5)), .int .u8 ((fv 6)), .int .u8 ((fv 7)), .int .u8 ((fv 8)), .int .u8 ((fv 9)), .int .u8 ((fv 10)), .int .u8 ((fv 11)), .int .u8 ((fv 12)), .int .u8 ((fv 13)), .int .u8 ((fv 14)), .int .u8 ((fv 15)), .int .u8 ((fv 16)), .int .u8 ((fv 17)), .int .u8 ((fv 18)), .int .u8 ((fv 19)), .int .u8 ((fv 20)), .int .u8 ((fv 21)), .int .u8 ((fv 22)), .int .u8 ((fv 23)), .int .u8 ((fv 24))]] W (StoOP ps qs W)) (hbox : ∀ W, Calls Try.prog 7 #[.agg #[.int .u8 ((fv 0)), .int .u8 ((fv 1)), .int .u8 ((fv 2)), .int .u8 ((fv 3)), .int .u8 ((fv 4)), .int .u8 ((fv 5)), .int .u8 ((fv 6)), .int .u8 ((fv 7)), .int .u8 ((fv 8)), .int .u8 ((fv 9)), .int .u8 ((fv 10)), .int .u8 ((fv 11)), .int .u8 ((fv 12)), .int .u8 ((fv 13)), .int .u8 ((fv 14)), .int .u8 ((fv 15)), .int .u8 ((fv 16)), .int .u8 ((fv 17)), .int .u8 ((fv 18)), .int .u8 ((fv 19)), .int .u8 ((fv 20)), .int .u8 ((fv 21)), .int .u8 ((fv 22)), .int .u8 ((fv 23)), .int .u8 ((fv 24))], .int .i64 0] W (BoxOP tb lg wd hh fp fq sl W)) (hI : FoldIn ps qs) (hb : (⟨tb, [lg, wd, lg, wd], hh, [fp, fp], [fp, fq], sl, false⟩ : Bl) = b) (hck : checkErr b = 0) (hm1 : w1S (o1 (ps 0)) (o1 (ps 1)) (o1 (ps 2)) (qs 0) = m1) (hm2 : w1S (o2 (ps 0)) (o2 (ps 1)) (o2 (ps 2)) (qs 0) = m2) (hka : lo1 ps qs = ka) (hkb : hi1 ps qs = kb) (hm3 : w2S (o1 (ps 0)) (o1 (ps 1)) (o1 (ps 2)) (qs 0) (qs 1) = m3) (hm4 : w2S (o2 (ps 0)) (o2 (ps 1)) (o2 (ps 2)) (qs 0) (qs 1) = m4) (hkc : lo2 ps qs = kc) (hkd : hi2 ps qs = kd) (j1 : 1 ≤ ka) (j2 : ka ≤ kb) (j3 : kb ≤ 10000) (j4 : 1 ≤ kc) (j5 : kc ≤ kd) (j6 : kd ≤ 10000) (e1 : ka ≤ kc) (e2 : kb ≤ kd) (e3 : m1 ≤ m3) (e4 : m2 ≤ m4) (hL9 : innerL b (ka, kb) 0 = L9) (hn9 : L9.length = 9) (hM9 : innerL b (kc, kd) 0 = M9) (hm9 : M9.length = 9) (hle9 : ∀ j, j < 9 → (nthP M9 j).1 ≤ (nthP L9 j).1 ∧ (nthP M9 j).2 ≤ (nthP L9 j).2) (gx0 : 0 ≤ tv 0 + 20 ∧ tv 0 + 20 ≤ 3000) (gx1 : 0 ≤ tv 1 + 20 ∧ tv 1 + 20 ≤ 3000) (gx2 : 0 ≤ tv 2 + 20 ∧ tv 2 + 20 ≤ 3000) (hsa : insideB b kb ((tv 0) + 20) ((tv 1) + 20) ((tv 2) + 20) = sa) (hpa : insideB b ka ((tv 0) + 20) ((tv 1) + 20) ((tv 2) + 20) = pa) (hsc : insideB b kd ((tv 0) + 20) ((tv 1) + 20) ((tv 2) + 20) = sc) (hpd : insideB b kc ((tv 0) + 20) ((tv 1) + 20) ((tv 2) + 20) = pd) (hfin : ((!sc || sa) && (!pd || pa) && (!sa || pa)) = true) (g_ : Nat → Value) (W_ : World) (bk0 : Nat) (bk1 : Nat) (bk2 : Nat) (bk3 : Nat) (bk4 : Nat) (bk5 : Nat) (a103' : Option Addr) (c104' : Nat) (a131' : Option Addr) (c132' : Nat) (g1' : Nat) (c3' : Nat) (g2' : Nat) (c4' : Nat) (g7' : Nat) (c10' : Nat) (g8' : Nat) (c11' : Nat) (g9' : Nat) (c12' : Nat) (bk6 : Nat) (bk7 : Nat)  (k_3 : g_ 3 = .pointer (some ⟨bk0, 0, none⟩)) (k_4 : g_ 4 = .bool false) (k_6 : g_ 6 = .pointer (some ⟨bk1, 0, none⟩)) (k_7 : g_ 7 = .pointer (some ⟨bk2, 0, none⟩)) (k_8 : g_ 8 = .pointer (some ⟨bk3, 0, none⟩)) (k_9 : g_ 9 = .int .i64 0) (k_10 : g_ 10 = .pointer (some ⟨bk4, 0, none⟩)) (k_11 : g_ 11 = .pointer (some ⟨bk5, 0, none⟩)) (k_12 : g_ 12 = .int .i64 0) (k_13 : g_ 13 = .slice (a103') (L9.length) (c104')) (k_14 : g_ 14 = .int .i64 0) (k_15 : g_ 15 = .slice (a131') (M9.length) (c132')) (k_16 : g_ 16 = .int .i64 0) (fB_ : Below w.heap.size w W_) (bl_0 : W_.heap[bk6]? = some (.cells #[.int .u8 ((fv 0)), .int .u8 ((fv 1)), .int .u8 ((fv 2)), .int .u8 ((fv 3)), .int .u8 ((fv 4)), .int .u8 ((fv 5)), .int .u8 ((fv 6)), .int .u8 ((fv 7)), .int .u8 ((fv 8)), .int .u8 ((fv 9)), .int .u8 ((fv 10)), .int .u8 ((fv 11)), .int .u8 ((fv 12)), .int .u8 ((fv 13)), .int .u8 ((fv 14)), .int .u8 ((fv 15)), .int .u8 ((fv 16)), .int .u8 ((fv 17)), .int .u8 ((fv 18)), .int .u8 ((fv 19)), .int .u8 ((fv 20)), .int .u8 ((fv 21)), .int .u8 ((fv 22)), .int .u8 ((fv 23)), .int .u8 ((fv 24))] 28 (0, 0))) (bl_1 : W_.heap[bk0]? = some (.cells #[.int .u8 ((tv 0)), .int .u8 ((tv 1)), .int .u8 ((tv 2))] 24 (0, 0))) (bl_2 : W_.heap[bk7]? = some (.cells #[.slice (some ⟨g1', 0, none⟩) (3) (c3'), .slice (some ⟨g2', 0, none⟩) (2) (c4')] 33 (0, 0))) (bl_3 : W_.heap[bk1]? = some (.cells #[.int .i64 tb, .slice (some ⟨g7', 0, none⟩) (4) (c10'), .int .i64 hh, .slice (some ⟨g8', 0, none⟩) (2) (c11'), .slice (some ⟨g9', 0, none⟩) (2) (c12'), .int .i64 sl, .bool false] 37 (0, 0))) (bl_4 : W_.heap[bk2]? = some (.cells #[.int .i64 m1, .int .i64 m2] 40 (0, 0))) (bl_5 : W_.heap[bk3]? = some (.cells #[.int .i64 ka, .int .i64 kb] 40 (0, 0))) (bl_6 : W_.heap[bk4]? = some (.cells #[.int .i64 m3, .int .i64 m4] 40 (0, 0))) (bl_7 : W_.heap[bk5]? = some (.cells #[.int .i64 kc, .int .i64 kd] 40 (0, 0))) (ft_0 : OwnR 68 8 0 3 (paCells3 ps) g1' c3' W_) (ft_1 : OwnR 70 4 0 2 (fuCells2 qs) g2' c4' W_) (ft_2 : OwnI 0 ([lg, wd, lg, wd]) g7' c10' W_) (ft_3 : OwnI 0 ([fp, fp]) g8' c11' W_) (ft_4 : OwnI 0 ([fp, fq]) g9' c12' W_) (ft_5 : Pp W_ a103' L9.length c104' L9) (ft_6 : Pp W_ a131' M9.length c132' M9) (lw_bk6 : w.heap.size ≤ bk6) (lw_bk0 : w.heap.size ≤ bk0) (lw_bk7 : w.heap.size ≤ bk7) (lw_bk1 : w.heap.size ≤ bk1) (lw_bk2 : w.heap.size ≤ bk2) (lw_bk3 : w.heap.size ≤ bk3) (lw_bk4 : w.heap.size ≤ bk4) (lw_bk5 : w.heap.size ≤ bk5) :
  (tailC 6 (bodyC Try.f5)).wp Try.prog (bodyPost Try.prog Try.f5 (fun e w' => e = .returned (.bool true) ∧ Below w.heap.size w w')) (fr 204 g_) W_ := by
 have hL9z : ((L9.length : Int) != 9) = false := by rw [hn9]; rfl
 have hM9z : ((M9.length : Int) != 9) = false := by rw [hm9]; rfl
 have hn1 := Int.not_lt.2 e1
 have hn2 := Int.not_lt.2 e2
 have hn3 := Int.not_lt.2 e3
 have hn4 := Int.not_lt.2 e4
 have gt0 := gtv 0
 have gt1 := gtv 1
 have gt2 := gtv 2
 have lt_bk6 := lt_of_blk bl_0
 have lt_bk0 := lt_of_blk bl_1
 have lt_bk7 := lt_of_blk bl_2
 have lt_bk1 := lt_of_blk bl_3
 have lt_bk2 := lt_of_blk bl_4
 have lt_bk3 := lt_of_blk bl_5
 have lt_bk4 := lt_of_blk bl_6
 have lt_bk5 := lt_of_blk bl_7
 have lo_ft_2 := ft_2.lim
 have lo_ft_3 := ft_3.lim
 have lo_ft_4 := ft_4.lim
 have lim135' := Pp.lim ft_5
 have lim136' := Pp.lim ft_6
 refine wp_seq_k fun K7 hK7 => ?_
 refine wp_seq_k fun K8 hK8 => ?_
 as_aux_lemma =>
 refine region_dk 52 [(59, 0), (60, 1), (61, 2), (62, 3), (63, 4), (64, 5), (65, 6), (66, 7), (67, 8), (68, 9), (69, 10), (70, 11), (71, 12), (72, 13), (73, 14), (74, 15), (75, 16), (76, 17), (77, 18), (78, 19), (79, 20), (80, 21), (81, 22), (82, 23), (83, 24), (84, 25), (85, 26), (86, 27), (87, 28), (88, 29), (89, 30), (90, 31), (91, 32), (92, 33), (93, 34), (94, 35), (95, 36), (96, 37), (97, 38), (98, 39), (99, 40), (100, 41), (101, 42), (102, 43), (103, 44), (104, 45), (105, 46), (106, 47), (107, 48), (108, 49), (109, 50), (110, 51)] [[], [0], [0, 1], [0, 1, 2], [0, 1, 2, 3], [0, 1, 2, 3, 4], [0, 1, 2, 3, 4, 5], [0, 1, 2, 3, 4, 5, 6], [0, 1, 2, 3, 4, 5, 6, 7], [0, 1, 2, 3, 4, 5, 6, 7, 8], [0, 1, 2, 3, 4, 5, 6, 7, 8, 9], [0, 1, 2, 3, 4, 5, 6, 7, 8, 9, 10], [0, 1, 2, 3, 4, 5, 6, 7, 8, 9, 10, 11], [0, 1, 2, 3, 4, 5, 6, 7, 8, 9, 10, 11, 12], [0, 1, 2, 3, 4, 5, 6, 7, 8, 9, 10, 11, 12, 13], [0, 1, 2, 3, 4, 5, 6, 7, 8, 9, 10, 11, 12, 13, 14], [0, 1, 2, 3, 4, 5, 6, 7, 8, 9, 10, 11, 12, 13, 14, 15], [0, 1, 2, 3, 4, 5, 6, 7, 8, 9, 10, 11, 12, 13, 14, 15, 16], [0, 1, 2, 3, 4, 5, 6, 7, 8, 9, 10, 11, 12, 13, 14, 15, 16, 17], [0, 1, 2, 3, 4, 5, 6, 7, 8, 9, 10, 11, 12, 13, 14, 15, 16, 17, 18], [0, 1, 2, 3, 4, 5, 6, 7, 8, 9, 10, 11, 12, 13, 14, 15, 16, 17, 18, 19], [0, 1, 2, 3, 4, 5, 6, 7, 8, 9, 10, 11, 12, 13, 14, 15, 16, 17, 18, 19, 20], [0, 1, 2, 3, 4, 5, 6, 7, 8, 9, 10, 11, 12, 13, 14, 15, 16, 17, 18, 19, 20, 21], [0, 1, 2, 3, 4, 5, 6, 7, 8, 9, 10, 11, 12, 13, 14, 15, 16, 17, 18, 19, 20, 21, 22], [0, 1, 2, 3, 4, 5, 6, 7, 8, 9, 10, 11, 12, 13, 14, 15, 16, 17, 18, 19, 20, 21, 22, 23], [0, 1, 2, 3, 4, 5, 6, 7, 8, 9, 10, 11, 12, 13, 14, 15, 16, 17, 18, 19, 20, 21, 22, 23, 24], [0, 1, 2, 3, 4, 5, 6, 7, 8, 9, 10, 11, 12, 13, 14, 15, 16, 17, 18, 19, 20, 21, 22, 23, 24, 25], [0, 1, 2, 3, 4, 5, 6, 7, 8, 9, 10, 11, 12, 13, 14, 15, 16, 17, 18, 19, 20, 21, 22, 23, 24], [0, 1, 2, 3, 4, 5, 6, 7, 8, 9, 10, 11, 12, 13, 14, 15, 16, 17, 18, 19, 20, 21, 22, 23, 24, 27], [0, 1, 2, 3, 4, 5, 6, 7, 8, 9, 10, 11, 12, 13, 14, 15, 16, 17, 18, 19, 20, 21, 22, 23, 24, 25, 26, 27, 28], [0, 1, 2, 3, 4, 5, 6, 7, 8, 9, 10, 11, 12, 13, 14, 15, 16, 17, 18, 19, 20, 21, 22, 23, 24, 25, 26, 27, 28, 29], [0, 1, 2, 3, 4, 5, 6, 7, 8, 9, 10, 11, 12, 13, 14, 15, 16, 17, 18, 19, 20, 21, 22, 23, 24, 25, 26, 27, 28, 29, 30], [0, 1, 2, 3, 4, 5, 6, 7, 8, 9, 10, 11, 12, 13, 14, 15, 16, 17, 18, 19, 20, 21, 22, 23, 24, 25, 26, 27, 28, 29, 30, 31], [0, 1, 2, 3, 4, 5, 6, 7, 8, 9, 10, 11, 12, 13, 14, 15, 16, 17, 18, 19, 20, 21, 22, 23, 24, 25, 26, 27, 28, 29, 30, 31, 32], [0, 1, 2, 3, 4, 5, 6, 7, 8, 9, 10, 11, 12, 13, 14, 15, 16, 17, 18, 19, 20, 21, 22, 23, 24, 25, 26, 27, 28, 29, 30, 31], [0, 1, 2, 3, 4, 5, 6, 7, 8, 9, 10, 11, 12, 13, 14, 15, 16, 17, 18, 19, 20, 21, 22, 23, 24, 25, 26, 27, 28, 29, 30, 31, 34], [0, 1, 2, 3, 4, 5, 6, 7, 8, 9, 10, 11, 12, 13, 14, 15, 16, 17, 18, 19, 20, 21, 22, 23, 24, 25, 26, 27, 28, 29, 30, 31, 32, 33, 34, 35], [0, 1, 2, 3, 4, 5, 6, 7, 8, 9, 10, 11, 12, 13, 14, 15, 16, 17, 18, 19, 20, 21, 22, 23, 24, 25, 26, 27, 28, 29, 30, 31, 32, 33, 34, 35, 36], [0, 1, 2, 3, 4, 5, 6, 7, 8, 9, 10, 11, 12, 13, 14, 15, 16, 17, 18, 19, 20, 21, 22, 23, 24, 25, 26, 27, 28, 29, 30, 31, 32, 33, 34, 35, 36, 37], [0, 1, 2, 3, 4, 5, 6, 7, 8, 9, 10, 11, 12, 13, 14, 15, 16, 17, 18, 19, 20, 21, 22, 23, 24, 25, 26, 27, 28, 29, 30, 31, 32, 33, 34, 35, 36, 37, 38], [0, 1, 2, 3, 4, 5, 6, 7, 8, 9, 10, 11, 12, 13, 14, 15, 16, 17, 18, 19, 20, 21, 22, 23, 24, 25, 26, 27, 28, 29, 30, 31, 32, 33, 34, 35, 36, 37, 38, 39], [0, 1, 2, 3, 4, 5, 6, 7, 8, 9, 10, 11, 12, 13, 14, 15, 16, 17, 18, 19, 20, 21, 22, 23, 24, 25, 26, 27, 28, 29, 30, 31, 32, 33, 34, 35, 36, 37, 38], [0, 1, 2, 3, 4, 5, 6, 7, 8, 9, 10, 11, 12, 13, 14, 15, 16, 17, 18, 19, 20, 21, 22, 23, 24, 25, 26, 27, 28, 29, 30, 31, 32, 33, 34, 35, 36, 37, 38, 41], [0, 1, 2, 3, 4, 5, 6, 7, 8, 9, 10, 11, 12, 13, 14, 15, 16, 17, 18, 19, 20, 21, 22, 23, 24, 25, 26, 27, 28, 29, 30, 31, 32, 33, 34, 35, 36, 37, 38, 39, 40, 41, 42], [0, 1, 2, 3, 4, 5, 6, 7, 8, 9, 10, 11, 12, 13, 14, 15, 16, 17, 18, 19, 20, 21, 22, 23, 24, 25, 26, 27, 28, 29, 30, 31, 32, 33, 34, 35, 36, 37, 38, 39, 40, 41, 42, 43], [0, 1, 2, 3, 4, 5, 6, 7, 8, 9, 10, 11, 12, 13, 14, 15, 16, 17, 18, 19, 20, 21, 22, 23, 24, 25, 26, 27, 28, 29, 30, 31, 32, 33, 34, 35, 36, 37, 38, 39, 40, 41, 42, 43, 44], [0, 1, 2, 3, 4, 5, 6, 7, 8, 9, 10, 11, 12, 13, 14, 15, 16, 17, 18, 19, 20, 21, 22, 23, 24, 25, 26, 27, 28, 29, 30, 31, 32, 33, 34, 35, 36, 37, 38, 39, 40, 41, 42, 43, 44, 45], [0, 1, 2, 3, 4, 5, 6, 7, 8, 9, 10, 11, 12, 13, 14, 15, 16, 17, 18, 19, 20, 21, 22, 23, 24, 25, 26, 27, 28, 29, 30, 31, 32, 33, 34, 35, 36, 37, 38, 39, 40, 41, 42, 43, 44, 45, 46], [0, 1, 2, 3, 4, 5, 6, 7, 8, 9, 10, 11, 12, 13, 14, 15, 16, 17, 18, 19, 20, 21, 22, 23, 24, 25, 26, 27, 28, 29, 30, 31, 32, 33, 34, 35, 36, 37, 38, 39, 40, 41, 42, 43, 44, 45], [0, 1, 2, 3, 4, 5, 6, 7, 8, 9, 10, 11, 12, 13, 14, 15, 16, 17, 18, 19, 20, 21, 22, 23, 24, 25, 26, 27, 28, 29, 30, 31, 32, 33, 34, 35, 36, 37, 38, 39, 40, 41, 42, 43, 44, 45, 48], [0, 1, 2, 3, 4, 5, 6, 7, 8, 9, 10, 11, 12, 13, 14, 15, 16, 17, 18, 19, 20, 21, 22, 23, 24, 25, 26, 27, 28, 29, 30, 31, 32, 33, 34, 35, 36, 37, 38, 39, 40, 41, 42, 43, 44, 45, 46, 47, 48, 49], [0, 1, 2, 3, 4, 5, 6, 7, 8, 9, 10, 11, 12, 13, 14, 15, 16, 17, 18, 19, 20, 21, 22, 23, 24, 25, 26, 27, 28, 29, 30, 31, 32, 33, 34, 35, 36, 37, 38, 39, 40, 41, 42, 43, 44, 45, 46, 47, 48, 49, 50]] (rel [is (.int .i64 0),
   is (.bool false),
   is (.bool false),
   is (.int .i64 0),
   is (.bool false),
   is (.bool false),
   is (.bool false),
   is (.int .i64 0),
   is (.bool false),
   is (.bool false),
   is (.bool false),
   is (.int .i64 0),
   is (.bool false),
   is (.bool false),
   is (.bool false),
   is (.slice (a103') (L9.length) (c104')),
   is (.int .i64 ((L9.length : Int))),
   is (.bool false),
   is (.bool false),
   is (.bool false),
   is (.slice (a131') (M9.length) (c132')),
   is (.int .i64 ((M9.length : Int))),
   is (.bool false),
   is (.bool false),
   is (.bool false),
   is (.pointer (some ⟨bk5, 0, none⟩)),
   is (.int .i64 kc),
   is (.pointer (some ⟨bk3, 0, none⟩)),
   is (.int .i64 ka),
   is (.bool false),
   is (.bool false),
   is (.bool false),
   is (.pointer (some ⟨bk5, 1, none⟩)),
   is (.int .i64 kd),
   is (.pointer (some ⟨bk3, 1, none⟩)),
   is (.int .i64 kb),
   is (.bool false),
   is (.bool false),
   is (.bool false),
   is (.pointer (some ⟨bk4, 0, none⟩)),
   is (.int .i64 m3),
   is (.pointer (some ⟨bk2, 0, none⟩)),
   is (.int .i64 m1),
   is (.bool false),
   is (.bool false),
   is (.bool false),
   is (.pointer (some ⟨bk4, 1, none⟩)),
   is (.int .i64 m4),
   is (.pointer (some ⟨bk2, 1, none⟩)),
   is (.int .i64 m2),
   is (.bool false),
   is (.bool false)])
  ⟨is_k, is_k, is_k, is_k, is_k, is_k, is_k, is_k, is_k, is_k, is_k, is_k, is_k, is_k, is_k, is_k, is_k, is_k, is_k, is_k, is_k, is_k, is_k, is_k, is_k, is_k, is_k, is_k, is_k, is_k, is_k, is_k, is_k, is_k, is_k, is_k, is_k, is_k, is_k, is_k, is_k, is_k, is_k, is_k, is_k, is_k, is_k, is_k, is_k, is_k, is_k, is_k, trivial⟩
  ⟨fun f s W g l m n o a => opv rfl rfl (by simp [go_sem, a.e 9 k_9]) rfl,
  fun f s W g l m n o a => opv rfl rfl (by simp [go_sem, a.e 59 (l 0 rfl)]) rfl,
  fun f s W g l m n o a => opv rfl rfl (by simp [go_sem, a.e 60 (l 1 rfl)]) rfl,
  fun f s W g l m n o a => osure rfl rfl (a.says (d := 61) rfl rfl (l 2 rfl)) (gv (by simp [go_sem, a.e 12 k_12]) rfl),
  fun f s W g l m n o a => osure rfl rfl (a.says (d := 61) rfl rfl (l 2 rfl)) (gv (by simp [go_sem, a.e 62 (l 3 rfl)]) rfl),
  fun f s W g l m n o a => opk (c := false) rfl rfl (fun _ => by simp [go_sem, a.e 61 (l 2 rfl), a.e 63 (l 4 rfl)]) (fun h => absurd h (by decide)),
  fun f s W g l m n o a => opv rfl rfl (by simp [go_sem, a.e 64 (l 5 rfl)]) rfl,
  fun f s W g l m n o a => osure rfl rfl (a.says (d := 65) rfl rfl (l 6 rfl)) (gv (by simp [go_sem, a.e 14 k_14]) rfl),
  fun f s W g l m n o a => osure rfl rfl (a.says (d := 65) rfl rfl (l 6 rfl)) (gv (by simp [go_sem, a.e 66 (l 7 rfl)]) rfl),
  fun f s W g l m n o a => opk (c := false) rfl rfl (fun _ => by simp [go_sem, a.e 65 (l 6 rfl), a.e 67 (l 8 rfl)]) (fun h => absurd h (by decide)),
  fun f s W g l m n o a => opv rfl rfl (by simp [go_sem, a.e 68 (l 9 rfl)]) rfl,
  fun f s W g l m n o a => osure rfl rfl (a.says (d := 69) rfl rfl (l 10 rfl)) (gv (by simp [go_sem, a.e 16 k_16]) rfl),
  fun f s W g l m n o a => osure rfl rfl (a.says (d := 69) rfl rfl (l 10 rfl)) (gv (by simp [go_sem, a.e 70 (l 11 rfl)]) rfl),
  fun f s W g l m n o a => opk (c := false) rfl rfl (fun _ => by simp [go_sem, a.e 69 (l 10 rfl), a.e 71 (l 12 rfl)]) (fun h => absurd h (by decide)),
  fun f s W g l m n o a => opv rfl rfl (by simp [go_sem, a.e 72 (l 13 rfl)]) rfl,
  fun f s W g l m n o a => osure rfl rfl (a.says (d := 73) rfl rfl (l 14 rfl)) (gv (by simp [go_sem, a.e 13 k_13]) rfl),
  fun f s W g l m n o a => osure rfl rfl (a.says (d := 73) rfl rfl (l 14 rfl)) (gv (by simp [go_sem, a.e 74 (l 15 rfl)]) rfl),
  fun f s W g l m n o a => osure rfl rfl (a.says (d := 73) rfl rfl (l 14 rfl)) (gv (by simp [go_sem, a.e 75 (l 16 rfl), hL9z]) rfl),
  fun f s W g l m n o a => opk (c := false) rfl rfl (fun _ => by simp [go_sem, a.e 73 (l 14 rfl), a.e 76 (l 17 rfl)]) (fun h => absurd h (by decide)),
  fun f s W g l m n o a => opv rfl rfl (by simp [go_sem, a.e 77 (l 18 rfl)]) rfl,
  fun f s W g l m n o a => osure rfl rfl (a.says (d := 78) rfl rfl (l 19 rfl)) (gv (by simp [go_sem, a.e 15 k_15]) rfl),
  fun f s W g l m n o a => osure rfl rfl (a.says (d := 78) rfl rfl (l 19 rfl)) (gv (by simp [go_sem, a.e 79 (l 20 rfl)]) rfl),
  fun f s W g l m n o a => osure rfl rfl (a.says (d := 78) rfl rfl (l 19 rfl)) (gv (by simp [go_sem, a.e 80 (l 21 rfl), hM9z]) rfl),
  fun f s W g l m n o a => opk (c := false) rfl rfl (fun _ => by simp [go_sem, a.e 78 (l 19 rfl), a.e 81 (l 22 rfl)]) (fun h => absurd h (by decide)),
  fun f s W g l m n o a => opv rfl rfl (by simp [go_sem, a.e 82 (l 23 rfl)]) rfl,
  fun f s W g l m n o a => osure rfl rfl (a.says (d := 83) rfl rfl (l 24 rfl)) (gv (by simp [go_sem, a.e 11 k_11]) rfl),
  fun f s W g l m n o a => osure rfl rfl (a.says (d := 83) rfl rfl (l 24 rfl)) (gv (by simp [go_sem, a.e 84 (l 25 rfl), cb bl_7 g 0]) rfl),
  fun f s W g l m n o a => osure rfl rfl (a.says (d := 83) rfl rfl (l 24 rfl)) (gv (by simp [go_sem, a.e 8 k_8]) rfl),
  fun f s W g l m n o a => osure rfl rfl (a.says (d := 83) rfl rfl (l 24 rfl)) (gv (by simp [go_sem, a.e 86 (l 27 rfl), cb bl_5 g 0]) rfl),
  fun f s W g l m n o a => osure rfl rfl (a.says (d := 83) rfl rfl (l 24 rfl)) (gv (by simp [go_sem, a.e 85 (l 26 rfl), a.e 87 (l 28 rfl), hn1]) rfl),
  fun f s W g l m n o a => opk (c := false) rfl rfl (fun _ => by simp [go_sem, a.e 83 (l 24 rfl), a.e 88 (l 29 rfl)]) (fun h => absurd h (by decide)),
  fun f s W g l m n o a => opv rfl rfl (by simp [go_sem, a.e 89 (l 30 rfl)]) rfl,
  fun f s W g l m n o a => osure rfl rfl (a.says (d := 90) rfl rfl (l 31 rfl)) (gv (by simp [go_sem, a.e 11 k_11]) rfl),
  fun f s W g l m n o a => osure rfl rfl (a.says (d := 90) rfl rfl (l 31 rfl)) (gv (by simp [go_sem, a.e 91 (l 32 rfl), cb bl_7 g 1]) rfl),
  fun f s W g l m n o a => osure rfl rfl (a.says (d := 90) rfl rfl (l 31 rfl)) (gv (by simp [go_sem, a.e 8 k_8]) rfl),
  fun f s W g l m n o a => osure rfl rfl (a.says (d := 90) rfl rfl (l 31 rfl)) (gv (by simp [go_sem, a.e 93 (l 34 rfl), cb bl_5 g 1]) rfl),
  fun f s W g l m n o a => osure rfl rfl (a.says (d := 90) rfl rfl (l 31 rfl)) (gv (by simp [go_sem, a.e 92 (l 33 rfl), a.e 94 (l 35 rfl), hn2]) rfl),
  fun f s W g l m n o a => opk (c := false) rfl rfl (fun _ => by simp [go_sem, a.e 90 (l 31 rfl), a.e 95 (l 36 rfl)]) (fun h => absurd h (by decide)),
  fun f s W g l m n o a => opv rfl rfl (by simp [go_sem, a.e 96 (l 37 rfl)]) rfl,
  fun f s W g l m n o a => osure rfl rfl (a.says (d := 97) rfl rfl (l 38 rfl)) (gv (by simp [go_sem, a.e 10 k_10]) rfl),
  fun f s W g l m n o a => osure rfl rfl (a.says (d := 97) rfl rfl (l 38 rfl)) (gv (by simp [go_sem, a.e 98 (l 39 rfl), cb bl_6 g 0]) rfl),
  fun f s W g l m n o a => osure rfl rfl (a.says (d := 97) rfl rfl (l 38 rfl)) (gv (by simp [go_sem, a.e 7 k_7]) rfl),
  fun f s W g l m n o a => osure rfl rfl (a.says (d := 97) rfl rfl (l 38 rfl)) (gv (by simp [go_sem, a.e 100 (l 41 rfl), cb bl_4 g 0]) rfl),
  fun f s W g l m n o a => osure rfl rfl (a.says (d := 97) rfl rfl (l 38 rfl)) (gv (by simp [go_sem, a.e 99 (l 40 rfl), a.e 101 (l 42 rfl), hn3]) rfl),
  fun f s W g l m n o a => opk (c := false) rfl rfl (fun _ => by simp [go_sem, a.e 97 (l 38 rfl), a.e 102 (l 43 rfl)]) (fun h => absurd h (by decide)),
  fun f s W g l m n o a => opv rfl rfl (by simp [go_sem, a.e 103 (l 44 rfl)]) rfl,
  fun f s W g l m n o a => osure rfl rfl (a.says (d := 104) rfl rfl (l 45 rfl)) (gv (by simp [go_sem, a.e 10 k_10]) rfl),
  fun f s W g l m n o a => osure rfl rfl (a.says (d := 104) rfl rfl (l 45 rfl)) (gv (by simp [go_sem, a.e 105 (l 46 rfl), cb bl_6 g 1]) rfl),
  fun f s W g l m n o a => osure rfl rfl (a.says (d := 104) rfl rfl (l 45 rfl)) (gv (by simp [go_sem, a.e 7 k_7]) rfl),
  fun f s W g l m n o a => osure rfl rfl (a.says (d := 104) rfl rfl (l 45 rfl)) (gv (by simp [go_sem, a.e 107 (l 48 rfl), cb bl_4 g 1]) rfl),
  fun f s W g l m n o a => osure rfl rfl (a.says (d := 104) rfl rfl (l 45 rfl)) (gv (by simp [go_sem, a.e 106 (l 47 rfl), a.e 108 (l 49 rfl), hn4]) rfl),
  fun f s W g l m n o a => opk (c := false) rfl rfl (fun _ => by simp [go_sem, a.e 104 (l 45 rfl), a.e 109 (l 50 rfl)]) (fun h => absurd h (by decide)), trivial⟩ ?_
 intro f15 s15 W15 hB15 g15 hg15
 have fB15 := hB15.f fB_
 have z15 := hB15.below.size
 have b15_0 := hB15.b bl_0
 have b15_1 := hB15.b bl_1
 have b15_2 := hB15.b bl_2
 have b15_3 := hB15.b bl_3
 have b15_4 := hB15.b bl_4
 have b15_5 := hB15.b bl_5
 have b15_6 := hB15.b bl_6
 have b15_7 := hB15.b bl_7
 have q137' := (ft_0.below hB15.below)
 have q138' := (ft_1.below hB15.below)
 have q139' := (ft_2.below hB15.below)
 have q140' := (ft_3.below hB15.below)
 have q141' := (ft_4.below hB15.below)
 have q142' := (ft_5.bw hB15)
 have q143' := (ft_6.bw hB15)
 refine hK8 _ _ ?_
 have k15_3 := kt hg15 3 k_3
 have k15_4 := kt hg15 4 k_4
 have k15_6 := kt hg15 6 k_6
 have k15_8 := kt hg15 8 k_8
 have k15_11 := kt hg15 11 k_11
 have k15_13 := kt hg15 13 k_13
 have k15_15 := kt hg15 15 k_15
 have k15_110 := kt hg15 110 (hB15.is 51)
 refine wp_cond_false ((fr_eval rfl).trans k15_110) ?_
 refine wp_skip ?_
 refine hK7 _ _ ?_
 refine wp_seq_k fun K10 hK10 => ?_
 refine wp_seq_k fun K11 hK11 => ?_
 as_aux_lemma =>
 refine region_dk 1 [(17, 0)] [[]] (rel [is (.int .i64 0)])
  ⟨is_k, trivial⟩
  ⟨fun f s W g l m n o a => opv rfl rfl (by simp [go_sem]) rfl, trivial⟩ ?_
 intro f16 s16 W16 hB16 g16 hg16
 have fB16 := hB16.f fB15
 have z16 := hB16.below.size
 have b16_0 := hB16.b b15_0
 have b16_1 := hB16.b b15_1
 have b16_2 := hB16.b b15_2
 have b16_3 := hB16.b b15_3
 have b16_4 := hB16.b b15_4
 have b16_5 := hB16.b b15_5
 have b16_6 := hB16.b b15_6
 have b16_7 := hB16.b b15_7
 have q144' := (q137'.below hB16.below)
 have q145' := (q138'.below hB16.below)
 have q146' := (q139'.below hB16.below)
 have q147' := (q140'.below hB16.below)
 have q148' := (q141'.below hB16.below)
 have q149' := (q142'.bw hB16)
 have q150' := (q143'.bw hB16)
 refine hK11 _ _ ?_
 have k16_3 := kt hg16 3 k15_3
 have k16_4 := kt hg16 4 k15_4
 have k16_6 := kt hg16 6 k15_6
 have k16_8 := kt hg16 8 k15_8
 have k16_11 := kt hg16 11 k15_11
 have k16_13 := kt hg16 13 k15_13
 have k16_15 := kt hg16 15 k15_15
 have k16_17 := kt hg16 17 (hB16.is 0)
 have fA17 : Below W16.heap.size W16 W16 := Below.refl _ _
 refine wp_block ?_
 refine wp_loop_n (fun m_ a_ W_ => ∃ g_ : Nat → Value, a_ = fr 204 g_ ∧ (∃ j : Nat, m_ = 9 - j ∧ g_ 3 = .pointer (some ⟨bk0, 0, none⟩) ∧ g_ 4 = .bool false ∧ g_ 6 = .pointer (some ⟨bk1, 0, none⟩) ∧ g_ 8 = .pointer (some ⟨bk3, 0, none⟩) ∧ g_ 11 = .pointer (some ⟨bk5, 0, none⟩) ∧ g_ 13 = .slice (a103') (L9.length) (c104') ∧ g_ 15 = .slice (a131') (M9.length) (c132') ∧ g_ 17 = .int .i64 ((j : Int)) ∧ Below w.heap.size w W_ ∧ W16.heap.size ≤ W_.heap.size ∧ Below W16.heap.size W16 W_ ∧ (j ≤ 9))) ⟨_, g16, rfl, 0, rfl, k16_3, k16_4, k16_6, k16_8, k16_11, k16_13, k16_15, k16_17.trans (by rfl), fB16, Nat.le_refl _, fA17, (by omega)⟩ ?_
 rintro _ _ W_151 ⟨g_151, rfl, j, rfl, k_151_3, k_151_4, k_151_6, k_151_8, k_151_11, k_151_13, k_151_15, k_151_17, fB_151, z_151, fA_151, lp0⟩
 refine wp_seq_k fun K12 hK12 => ?_
 refine wp_seq_k fun K13 hK13 => ?_
 as_aux_lemma =>
 refine region_dk 2 [(111, 0), (112, 1)] [[], [0]] (rel [is (.int .i64 ((j : Int))),
   is (.bool (decide ((j : Int) < 9)))])
  ⟨is_k, is_k, trivial⟩
  ⟨fun f s W g l m n o a => opv rfl rfl (by simp [go_sem, a.e 17 k_151_17]) rfl,
  fun f s W g l m n o a => opv rfl rfl (by simp [go_sem, a.e 111 (l 0 rfl)]) rfl, trivial⟩ ?_
 intro f18 s18 W18 hB18 g18 hg18
 have fB18 := hB18.f fB_151
 have z18 := hB18.below.size
 have fA18 := hB18.f fA_151
 refine hK13 _ _ ?_
 have k18_3 := kt hg18 3 k_151_3
 have k18_4 := kt hg18 4 k_151_4
 have k18_6 := kt hg18 6 k_151_6
 have k18_8 := kt hg18 8 k_151_8
 have k18_11 := kt hg18 11 k_151_11
 have k18_13 := kt hg18 13 k_151_13
 have k18_15 := kt hg18 15 k_151_15
 have k18_17 := kt hg18 17 k_151_17
 have k18_112 := kt hg18 112 (hB18.is 1)
 refine wp_cond_split (t := decide ((j : Int) < 9)) ((fr_eval rfl).trans k18_112) (fun hc14 => ?_) (fun hc14 => ?_)
 ·
  have hc14' := hc14; try simp only [ba] at hc14'
  have lij := Nat.not_le.2 (show j < L9.length by omega)
  have lim := Nat.not_le.2 (show j < M9.length by omega)
  obtain ⟨bq, oq, hab⟩ := q149'.at' (by omega)
  obtain ⟨bm, om, ham⟩ := q150'.at' (by omega)
  have hmm := hle9 j (by omega)
  have hq1 := Int.not_lt.2 hmm.1
  have hq2 := Int.not_lt.2 hmm.2
  refine wp_skip ?_
  refine hK12 _ _ ?_
  refine wp_seq_k fun K15 hK15 => ?_
  refine wp_block ?_
  refine wp_seq_k fun K16 hK16 => ?_
  as_aux_lemma =>
  refine region_dk 24 [(115, 0), (116, 1), (117, 2), (118, 3), (119, 4), (120, 5), (121, 6), (122, 7), (123, 8), (124, 9), (125, 10), (126, 11), (127, 12), (128, 13), (129, 14), (130, 15), (131, 16), (132, 17), (133, 18), (134, 19), (135, 20), (136, 21), (137, 22), (138, 23)] [[], [], [0, 1], [0, 1, 2], [0, 1, 2, 3], [], [], [5, 6], [5, 6, 7], [5, 6, 7, 8], [0, 1, 2, 3, 4, 5, 6, 7, 8, 9], [0, 1, 2, 3, 4, 5, 6, 7, 8, 9, 10], [0, 1, 2, 3, 4, 5, 6, 7, 8, 9, 10, 11], [0, 1, 2, 3, 4, 5, 6, 7, 8, 9, 10, 11], [0, 1, 2, 3, 4, 5, 6, 7, 8, 9, 10, 11, 12, 13], [0, 1, 2, 3, 4, 5, 6, 7, 8, 9, 10, 11, 12, 13, 14], [0, 1, 2, 3, 4, 5, 6, 7, 8, 9, 10, 11, 12, 13, 14, 15], [0, 1, 2, 3, 4, 5, 6, 7, 8, 9, 10, 11], [0, 1, 2, 3, 4, 5, 6, 7, 8, 9, 10, 11], [0, 1, 2, 3, 4, 5, 6, 7, 8, 9, 10, 11, 17, 18], [0, 1, 2, 3, 4, 5, 6, 7, 8, 9, 10, 11, 17, 18, 19], [0, 1, 2, 3, 4, 5, 6, 7, 8, 9, 10, 11, 17, 18, 19, 20], [0, 1, 2, 3, 4, 5, 6, 7, 8, 9, 10, 11, 12, 13, 14, 15, 16, 17, 18, 19, 20, 21], [0, 1, 2, 3, 4, 5, 6, 7, 8, 9, 10, 11, 12, 13, 14, 15, 16, 17, 18, 19, 20, 21, 22]] (rel [is (.slice (a131') (M9.length) (c132')),
   is (.int .i64 ((j : Int))),
   is (.pointer (some ⟨bm, om + j * 2, none⟩)),
   is (.pointer (some ⟨bm, om + j * 2, none⟩)),
   is (.int .i64 (((nthP M9 j).1))),
   is (.slice (a103') (L9.length) (c104')),
   is (.int .i64 ((j : Int))),
   is (.pointer (some ⟨bq, oq + j * 2, none⟩)),
   is (.pointer (some ⟨bq, oq + j * 2, none⟩)),
   is (.int .i64 (((nthP L9 j).1))),
   is (.bool false),
   is (.bool false),
   is (.slice (a131') (M9.length) (c132')),
   is (.int .i64 ((j : Int))),
   is (.pointer (some ⟨bm, om + j * 2, none⟩)),
   is (.pointer (some ⟨bm, om + j * 2 + 1, none⟩)),
   is (.int .i64 (((nthP M9 j).2))),
   is (.slice (a103') (L9.length) (c104')),
   is (.int .i64 ((j : Int))),
   is (.pointer (some ⟨bq, oq + j * 2, none⟩)),
   is (.pointer (some ⟨bq, oq + j * 2 + 1, none⟩)),
   is (.int .i64 (((nthP L9 j).2))),
   is (.bool false),
   is (.bool false)])
   ⟨is_k, is_k, is_k, is_k, is_k, is_k, is_k, is_k, is_k, is_k, is_k, is_k, is_k, is_k, is_k, is_k, is_k, is_k, is_k, is_k, is_k, is_k, is_k, is_k, trivial⟩
   ⟨fun f s W g l m n o a => opv rfl rfl (by simp [go_sem, a.e 15 k18_15]) rfl,
  fun f s W g l m n o a => opv rfl rfl (by simp [go_sem, a.e 17 k18_17]) rfl,
  fun f s W g l m n o a => opv rfl rfl (by simp [go_sem, a.e 115 (l 0 rfl), a.e 116 (l 1 rfl), ham, lim]) rfl,
  fun f s W g l m n o a => opv rfl rfl (by simp [go_sem, a.e 117 (l 2 rfl)]) rfl,
  fun f s W g l m n o a => by have aW := below_trans fA18 g; have cu := (pp_nth (i := j) (q150'.below aW (Nat.le_refl _)) ham (by omega)).1; exact opv rfl rfl (by simp [go_sem, a.e 118 (l 3 rfl), cu]) rfl,
  fun f s W g l m n o a => opv rfl rfl (by simp [go_sem, a.e 13 k18_13]) rfl,
  fun f s W g l m n o a => opv rfl rfl (by simp [go_sem, a.e 17 k18_17]) rfl,
  fun f s W g l m n o a => opv rfl rfl (by simp [go_sem, a.e 120 (l 5 rfl), a.e 121 (l 6 rfl), hab, lij]) rfl,
  fun f s W g l m n o a => opv rfl rfl (by simp [go_sem, a.e 122 (l 7 rfl)]) rfl,
  fun f s W g l m n o a => by have aW := below_trans fA18 g; have cu := (pp_nth (i := j) (q149'.below aW (Nat.le_refl _)) hab (by omega)).1; exact opv rfl rfl (by simp [go_sem, a.e 123 (l 8 rfl), cu]) rfl,
  fun f s W g l m n o a => opv rfl rfl (by simp [go_sem, a.e 119 (l 4 rfl), a.e 124 (l 9 rfl), hq1]) rfl,
  fun f s W g l m n o a => opv rfl rfl (by simp [go_sem, a.e 125 (l 10 rfl)]) rfl,
  fun f s W g l m n o a => osure rfl rfl (a.says (d := 126) rfl rfl (l 11 rfl)) (gv (by simp [go_sem, a.e 15 k18_15]) rfl),
  fun f s W g l m n o a => osure rfl rfl (a.says (d := 126) rfl rfl (l 11 rfl)) (gv (by simp [go_sem, a.e 17 k18_17]) rfl),
  fun f s W g l m n o a => osure rfl rfl (a.says (d := 126) rfl rfl (l 11 rfl)) (gv (by simp [go_sem, a.e 127 (l 12 rfl), a.e 128 (l 13 rfl), ham, lim]) rfl),
  fun f s W g l m n o a => osure rfl rfl (a.says (d := 126) rfl rfl (l 11 rfl)) (gv (by simp [go_sem, a.e 129 (l 14 rfl)]) rfl),
  fun f s W g l m n o a => osure rfl rfl (a.says (d := 126) rfl rfl (l 11 rfl)) (by have aW := below_trans fA18 g; have cu := (pp_nth (i := j) (q150'.below aW (Nat.le_refl _)) ham (by omega)).2; exact gv (by simp [go_sem, a.e 130 (l 15 rfl), cu]) rfl),
  fun f s W g l m n o a => osure rfl rfl (a.says (d := 126) rfl rfl (l 11 rfl)) (gv (by simp [go_sem, a.e 13 k18_13]) rfl),
  fun f s W g l m n o a => osure rfl rfl (a.says (d := 126) rfl rfl (l 11 rfl)) (gv (by simp [go_sem, a.e 17 k18_17]) rfl),
  fun f s W g l m n o a => osure rfl rfl (a.says (d := 126) rfl rfl (l 11 rfl)) (gv (by simp [go_sem, a.e 132 (l 17 rfl), a.e 133 (l 18 rfl), hab, lij]) rfl),
  fun f s W g l m n o a => osure rfl rfl (a.says (d := 126) rfl rfl (l 11 rfl)) (gv (by simp [go_sem, a.e 134 (l 19 rfl)]) rfl),
  fun f s W g l m n o a => osure rfl rfl (a.says (d := 126) rfl rfl (l 11 rfl)) (by have aW := below_trans fA18 g; have cu := (pp_nth (i := j) (q149'.below aW (Nat.le_refl _)) hab (by omega)).2; exact gv (by simp [go_sem, a.e 135 (l 20 rfl), cu]) rfl),
  fun f s W g l m n o a => osure rfl rfl (a.says (d := 126) rfl rfl (l 11 rfl)) (gv (by simp [go_sem, a.e 131 (l 16 rfl), a.e 136 (l 21 rfl), hq2]) rfl),
  fun f s W g l m n o a => opk (c := false) rfl rfl (fun _ => by simp [go_sem, a.e 126 (l 11 rfl), a.e 137 (l 22 rfl)]) (fun h => absurd h (by decide)), trivial⟩ ?_
  intro f19 s19 W19 hB19 g19 hg19
  have fB19 := hB19.f fB18
  have z19 := hB19.below.size
  have fA19 := hB19.f fA18
  refine hK16 _ _ ?_
  have k19_3 := kt hg19 3 k18_3
  have k19_4 := kt hg19 4 k18_4
  have k19_6 := kt hg19 6 k18_6
  have k19_8 := kt hg19 8 k18_8
  have k19_11 := kt hg19 11 k18_11
  have k19_13 := kt hg19 13 k18_13
  have k19_15 := kt hg19 15 k18_15
  have k19_17 := kt hg19 17 k18_17
  have k19_138 := kt hg19 138 (hB19.is 23)
  refine wp_cond_false ((fr_eval rfl).trans k19_138) ?_
  refine wp_skip ?_
  refine inBlock_normal ?_
  refine hK15 _ _ ?_
  as_aux_lemma =>
  refine region_dk 3 [(113, 0), (114, 1), (17, 2)] [[], [0], [0, 1]] (rel [is (.int .i64 ((j : Int))),
   is (.int .i64 ((j : Int) + 1)),
   is (.int .i64 ((j : Int) + 1))])
   ⟨is_k, is_k, is_k, trivial⟩
   ⟨fun f s W g l m n o a => opv rfl rfl (by simp [go_sem, a.e 17 ((n 2 17 rfl rfl).trans k19_17)]) rfl,
  fun f s W g l m n o a => opv rfl rfl (by simp [go_sem, a.e 113 (l 0 rfl), IntWalk.i64_in ((j : Int) + 1) (by omega)]) rfl,
  fun f s W g l m n o a => opv rfl rfl (by simp [go_sem, a.e 114 (l 1 rfl)]) rfl, trivial⟩ ?_
  intro f20 s20 W20 hB20 g20 hg20
  have fB20 := hB20.f fB19
  have z20 := hB20.below.size
  have fA20 := hB20.f fA19
  refine wpOps_end ?_
  have k20_3 := kt hg20 3 k19_3
  have k20_4 := kt hg20 4 k19_4
  have k20_6 := kt hg20 6 k19_6
  have k20_8 := kt hg20 8 k19_8
  have k20_11 := kt hg20 11 k19_11
  have k20_13 := kt hg20 13 k19_13
  have k20_15 := kt hg20 15 k19_15
  have k20_17 := kt hg20 17 (hB20.is 2)
  refine then_normal ?_
  exact ⟨_, by omega, g20, rfl, j + 1, rfl, k20_3, k20_4, k20_6, k20_8, k20_11, k20_13, k20_15, k20_17.trans (by go_num), fB20, (by omega), fA20, (by omega)⟩
 ·
  have hc14' := hc14; try simp only [ba] at hc14'
  refine wp_exit ?_
  refine then_exit ?_
  refine then_exit ?_
  refine inBlock_at ?_
  refine hK10 _ _ ?_
  have q152' := (q144'.below fA18)
  have q153' := (q145'.below fA18)
  have q154' := (q146'.below fA18)
  have q155' := (q147'.below fA18)
  have q156' := (q148'.below fA18)
  have q157' := (q149'.below fA18 (Nat.le_refl _))
  have q158' := (q150'.below fA18 (Nat.le_refl _))
  have bl159' := blk_below b16_0 fA18
  have bl160' := blk_below b16_1 fA18
  have bl161' := blk_below b16_2 fA18
  have bl162' := blk_below b16_3 fA18
  have bl163' := blk_below b16_4 fA18
  have bl164' := blk_below b16_5 fA18
  have bl165' := blk_below b16_6 fA18
  have bl166' := blk_below b16_7 fA18
  exact thin_main_c13 fv tv ps qs tb lg wd hh fp fq sl b ka kb kc kd m1 m2 m3 m4 sa pa sc pd L9 M9 w gtv hst hbox hI hb hck hm1 hm2 hka hkb hm3 hm4 hkc hkd j1 j2 j3 j4 j5 j6 e1 e2 e3 e4 hL9 hn9 hM9 hm9 hle9 gx0 gx1 gx2 hsa hpa hsc hpd hfin g18 W18 bk0 bk1 bk3 bk5 a103' c104' a131' c132' g1' c3' g2' c4' g7' c10' g8' c11' g9' c12' bk6 bk7 bk2 bk4 k18_3 k18_4 k18_6 k18_8 k18_11 fB18 bl159' bl160' bl161' bl162' bl163' bl164' bl165' bl166' q152' q153' q154' q155' q156' q157' q158' (by omega) (by omega) (by omega) (by omega) (by omega) (by omega) (by omega) (by omega)
end Go.Proofs.Ytiocklgakklkpaa
