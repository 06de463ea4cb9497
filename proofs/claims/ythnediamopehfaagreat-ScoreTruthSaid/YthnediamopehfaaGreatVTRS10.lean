/- Part of the proof: what the claim leans on. -/
import Derived.Test.YthnediamopehfaaGreatVTRL9
set_option maxHeartbeats 60000000
set_option maxRecDepth 100000
set_option linter.unusedSimpArgs false
set_option linter.unusedVariables false
namespace Go.Proofs.YthnediamopehfaaGreat
open Go.RowKit
theorem truth_main_c15 (x : Sh) (gx : ShIn x) (ws : Nat → Int) (v0 v1 : Int) (gv0 : 0 ≤ v0 ∧ v0 ≤ 255) (gv1 : 0 ≤ v1 ∧ v1 ≤ 255) (b d sb : Bl) (vi : Wi) (p0 p1 p2 p3 hh t0 t1 u0 u1 lo hi off cal q1 q2 n : Int) (dd : Nat → Int) (LI : List Sp) (w : World) (gws : ∀ j, j < 9 → -128 ≤ ws j ∧ ws j ≤ 127) (hbx : shBl x = d) (ht : twinB d = b) (hcx : shCal x = (lo, hi)) (hto : b.isOpen = vi.isOpen) (hv : wishOf x b lo hi = vi) (hkd : checkErr d = 0) (hck : checkErr b = 0) (hcs : checkErr sb = 0) (hwv : wishErr vi = 0) (hof : v0 % 6 = off) (gof : 0 ≤ off ∧ off ≤ 5) (hdd : ∀ j, j < 9 → (ws j).tmod (off + 1) = dd j) (gdd : ∀ j, j < 9 → -5 ≤ dd j ∧ dd j ≤ 5) (hbl : b = ⟨30, [p0, p1, p2, p3], hh, [t0, t1], [u0, u1], 9, b.isOpen⟩) (hsn : sb = ⟨30, [p0 + (dd 0), p1 + (dd 1), p2 + (dd 2), p3 + (dd 3)], hh + (dd 8), [if b.isOpen = true then t0 else max 0 (t0 + dd 6), if b.isOpen = true then t1 else max 0 (t1 + dd 7)], [max 0 (u0 + (dd 4)), max 0 (u1 + (dd 5))], 9, b.isOpen⟩) (gp0 : 0 ≤ p0 ∧ p0 ≤ 1000) (gp1 : 0 ≤ p1 ∧ p1 ≤ 1000) (gp2 : 0 ≤ p2 ∧ p2 ≤ 1000) (gp3 : 0 ≤ p3 ∧ p3 ≤ 1000) (ghh : 0 ≤ hh ∧ hh ≤ 1000) (gt0 : 0 ≤ t0 ∧ t0 ≤ 1000) (gt1 : 0 ≤ t1 ∧ t1 ≤ 1000) (gu0 : 0 ≤ u0 ∧ u0 ≤ 1000) (gu1 : 0 ≤ u1 ∧ u1 ≤ 1000) (j1 : 1 ≤ lo) (j2 : lo ≤ hi) (j3 : hi ≤ 10000) (gmu : 0 ≤ v1 * (hi - lo) ∧ v1 * (hi - lo) ≤ 255 * (hi - lo)) (hcal : lo + ((v1 * (hi - lo)) / 255) = cal) (gcal : lo ≤ cal ∧ cal ≤ hi) (hLI : innerL sb (lo, hi) off = LI) (hL9 : LI.length = 9) (hmic : ∀ j, j < 9 → (nthP LI j).1 ≤ mic b cal j ∧ mic b cal j ≤ (nthP LI j).2) (hM : mayOf sb vi lo hi off = (n, 0)) (hn1 : lo ≤ n) (hn2 : n ≤ cal) (hM2 : mayOf b vi cal hi 0 = (cal, 0)) (hF : calErr b vi = 0) (hq : calOf b vi = (q1, q2)) (hq1 : q1 ≤ lo) (hq2 : hi ≤ q2) (n1 : b.panels.length ≤ 1000) (n2 : b.top.length ≤ 1000) (n3 : b.bottom.length ≤ 1000) (g_ : Nat → Value) (W_ : World) (bk0 : Nat) (bk1 : Nat) (bk2 : Nat) (bk3 : Nat) (bk4 : Nat) (bk5 : Nat) (bk6 : Nat) (g19' : Nat) (c22' : Nat) (g20' : Nat) (c23' : Nat) (g21' : Nat) (c24' : Nat) (g37' : Nat) (c40' : Nat) (g39' : Nat) (c42' : Nat) (g38' : Nat) (c41' : Nat) (bk7 : Nat) (zt0 zt1 : Int) (k_5 : g_ 5 = .pointer (some ⟨bk0, 0, none⟩)) (k_6 : g_ 6 = .bool false) (k_7 : g_ 7 = .pointer (some ⟨bk1, 0, none⟩)) (k_8 : g_ 8 = .pointer (some ⟨bk2, 0, none⟩)) (k_9 : g_ 9 = .pointer (some ⟨bk3, 0, none⟩)) (k_10 : g_ 10 = .pointer (some ⟨bk4, 0, none⟩)) (k_11 : g_ 11 = .pointer (some ⟨bk5, 0, none⟩)) (k_12 : g_ 12 = .func (.func 40) #[] #[.pointer (some ⟨bk6, 0, none⟩), .pointer (some ⟨bk3, 0, none⟩)]) (fB_ : Below w.heap.size w W_) (bl_0 : W_.heap[bk7]? = some (.cells #[.int .u8 x.x0, .int .u8 x.x1, .int .u8 x.x2, .int .u8 x.x3, .int .u8 x.xh, .int .u8 x.y0, .int .u8 x.y1, .int .u8 x.y2, .int .u8 x.y3, .bool x.xo, .int .u8 x.ca, .int .u8 x.cb, .int .u8 x.v0, .int .u8 x.v1, .int .u8 x.v2, .int .u8 x.v3, .int .u8 x.v4] 72 (0, 0))) (bl_1 : W_.heap[bk6]? = some (.cells #[.int .i8 ((ws 0)), .int .i8 ((ws 1)), .int .i8 ((ws 2)), .int .i8 ((ws 3)), .int .i8 ((ws 4)), .int .i8 ((ws 5)), .int .i8 ((ws 6)), .int .i8 ((ws 7)), .int .i8 ((ws 8))] 85 (0, 0))) (bl_2 : W_.heap[bk0]? = some (.cells #[.int .u8 v0, .int .u8 v1] 69 (0, 0))) (bl_3 : W_.heap[bk1]? = some (.cells #[.int .i64 b.tab, .slice (some ⟨g19', 0, none⟩) (b.panels.length) c22', .int .i64 b.height, .slice (some ⟨g20', 0, none⟩) (b.top.length) c23', .slice (some ⟨g21', 0, none⟩) (b.bottom.length) c24', .int .i64 b.slot, .bool b.isOpen] 24 (0, 0))) (bl_4 : W_.heap[bk2]? = some (.cells #[.int .i64 lo, .int .i64 hi] 26 (0, 0))) (bl_5 : W_.heap[bk3]? = some (.cells #[.int .i64 off] 3 (0, 0))) (bl_6 : W_.heap[bk4]? = some (.cells #[.int .i64 vi.length.1, .int .i64 vi.length.2, .int .i64 vi.width.1, .int .i64 vi.width.2, .int .i64 vi.height.1, .int .i64 vi.height.2, .int .i64 vi.outer.1, .int .i64 vi.outer.2, .int .i64 vi.inner.1, .int .i64 vi.inner.2, .bool vi.isOpen] 43 (0, 0))) (bl_7 : W_.heap[bk5]? = some (.cells #[.int .i64 30, .slice (some ⟨g37', 0, none⟩) 4 c40', .int .i64 hh, .slice (some ⟨g38', 0, none⟩) 2 c41', .slice (some ⟨g39', 0, none⟩) 2 c42', .int .i64 9, .bool b.isOpen] 24 (0, 0))) (ft_0 : OwnI 0 b.panels g19' c22' W_) (ft_1 : OwnI 0 b.top g20' c23' W_) (ft_2 : OwnI 0 b.bottom g21' c24' W_) (ft_3 : OwnI w.heap.size ([p0 + (dd 0), p1 + (dd 1), p2 + (dd 2), p3 + (dd 3)]) g37' c40' W_) (ft_4 : OwnI w.heap.size ([max 0 (u0 + (dd 4)), max 0 (u1 + (dd 5))]) g39' c42' W_) (ft_5 : OwnI w.heap.size ([zt0, zt1]) g38' c41' W_) (lw_bk7 : w.heap.size ≤ bk7) (lw_bk6 : w.heap.size ≤ bk6) (lw_bk0 : w.heap.size ≤ bk0) (lw_bk1 : w.heap.size ≤ bk1) (lw_bk2 : w.heap.size ≤ bk2) (lw_bk3 : w.heap.size ≤ bk3) (lw_bk4 : w.heap.size ≤ bk4) (lw_bk5 : w.heap.size ≤ bk5) (ne_0_1 : bk7 ≠ bk6) (ne_0_2 : bk7 ≠ bk0) (ne_1_2 : bk6 ≠ bk0) (ne_0_3 : bk7 ≠ bk1) (ne_1_3 : bk6 ≠ bk1) (ne_2_3 : bk0 ≠ bk1) (ne_0_4 : bk7 ≠ bk2) (ne_1_4 : bk6 ≠ bk2) (ne_2_4 : bk0 ≠ bk2) (ne_3_4 : bk1 ≠ bk2) (ne_0_5 : bk7 ≠ bk3) (ne_1_5 : bk6 ≠ bk3) (ne_2_5 : bk0 ≠ bk3) (ne_3_5 : bk1 ≠ bk3) (ne_4_5 : bk2 ≠ bk3) (ne_0_6 : bk7 ≠ bk4) (ne_1_6 : bk6 ≠ bk4) (ne_2_6 : bk0 ≠ bk4) (ne_3_6 : bk1 ≠ bk4) (ne_4_6 : bk2 ≠ bk4) (ne_5_6 : bk3 ≠ bk4) (ne_0_7 : bk7 ≠ bk5) (ne_1_7 : bk6 ≠ bk5) (ne_2_7 : bk0 ≠ bk5) (ne_3_7 : bk1 ≠ bk5) (ne_4_7 : bk2 ≠ bk5) (ne_5_7 : bk3 ≠ bk5) (ne_6_7 : bk4 ≠ bk5) (ne_0_8 : bk7 ≠ g37') (ne_1_8 : bk6 ≠ g37') (ne_2_8 : bk0 ≠ g37') (ne_3_8 : bk1 ≠ g37') (ne_4_8 : bk2 ≠ g37') (ne_5_8 : bk3 ≠ g37') (ne_6_8 : bk4 ≠ g37') (ne_7_8 : bk5 ≠ g37') (ne_0_9 : bk7 ≠ g39') (ne_1_9 : bk6 ≠ g39') (ne_2_9 : bk0 ≠ g39') (ne_3_9 : bk1 ≠ g39') (ne_4_9 : bk2 ≠ g39') (ne_5_9 : bk3 ≠ g39') (ne_6_9 : bk4 ≠ g39') (ne_7_9 : bk5 ≠ g39') (ne_8_9 : g37' ≠ g39') (ne_0_10 : bk7 ≠ g38') (ne_1_10 : bk6 ≠ g38') (ne_2_10 : bk0 ≠ g38') (ne_3_10 : bk1 ≠ g38') (ne_4_10 : bk2 ≠ g38') (ne_5_10 : bk3 ≠ g38') (ne_6_10 : bk4 ≠ g38') (ne_7_10 : bk5 ≠ g38') (ne_8_10 : g37' ≠ g38') (ne_9_10 : g39' ≠ g38') (zp_0 : zt0 = (if b.isOpen = true then t0 else max 0 (t0 + dd 6))) (zq_0 : zt1 = (if b.isOpen = true then t1 else max 0 (t1 + dd 7))) :
  (tailC 7 (bodyC Tryz.f10)).wp Tryz.prog (bodyPost Tryz.prog Tryz.f10 (fun e w' => e = .returned (.bool true) ∧ Below w.heap.size w w')) (fr 222 g_) W_ := by
 obtain ⟨hlb1, hlb2, hlb3⟩ := (good_nums hck).1
 obtain ⟨hld1, hld2, hld3⟩ := (good_nums hkd).1
 have hL9z : ((LI.length : Int) != 9) = false := by rw [hL9]; rfl
 have hn1n := Int.not_lt.2 hn1
 have hn2n := Int.not_lt.2 hn2
 have gdd0 := gdd 0 (by decide)
 have gdd1 := gdd 1 (by decide)
 have gdd2 := gdd 2 (by decide)
 have gdd3 := gdd 3 (by decide)
 have gdd4 := gdd 4 (by decide)
 have gdd5 := gdd 5 (by decide)
 have gdd6 := gdd 6 (by decide)
 have gdd7 := gdd 7 (by decide)
 have gdd8 := gdd 8 (by decide)
 have lt_bk7 := ltb bl_0
 have lt_bk6 := ltb bl_1
 have lt_bk0 := ltb bl_2
 have lt_bk1 := ltb bl_3
 have lt_bk2 := ltb bl_4
 have lt_bk3 := ltb bl_5
 have lt_bk4 := ltb bl_6
 have lt_bk5 := ltb bl_7
 have lo_ft_3 := ft_3.lim
 have lo_ft_4 := ft_4.lim
 have lo_ft_5 := ft_5.lim
 refine wp_seq_k fun K46 hK46 => ?_
 as_aux_lemma =>
 refine ry 6 [(93, 0), (94, 1), (95, 2), (96, 3), (97, 4), (98, 5)] [[], [0], [], [2], [1, 3], [], [0, 1, 2, 3, 4, 5]] (rel [is (.pointer (some ⟨bk5, 2, none⟩)), iI hh, is (.func (.func 40) #[] #[.pointer (some ⟨bk6, 0, none⟩), .pointer (some ⟨bk3, 0, none⟩)]), iI (dd 8), iI (hh + (dd 8)), is (.pointer (some ⟨bk5, 2, none⟩))])
  ⟨fun f s W g i l m p a => opv rfl rfl (by simp [go_sem, a.e 11 k_11]) rfl,
  fun f s W g i l m p a => opv rfl rfl (by simp [go_sem, a.e 93 (i 0 rfl), cb bl_7 g 2]) rfl,
  fun f s W g i l m p a => opm (a.v 12 k_12),
  fun f s W g i l m p a => opd (args := #[.int .i64 8, .pointer (some ⟨bk6, 0, none⟩), .pointer (some ⟨bk3, 0, none⟩)]) rfl rfl (by simp [go_sem, a.e 95 (i 2 rfl)]) ((by_any ws off 8 (bk6) (bk3) W (bwb bl_1 g) (bwb bl_5 g) (by decide) (gws 8 (by decide)) gof : Calls _ _ #[.int .i64 8, _, _] W _)) ((fun e W' h => by have h1 := h.1; rw [hdd 8 (by decide)] at h1; exact ⟨_, h1, h.2, rfl⟩)),
  fun f s W g i l m p a => opv rfl rfl (by simp [go_sem, a.e 94 (i 1 rfl), a.e 96 (i 3 rfl), IntWalk.i64_in (hh + (dd 8)) (by omega)]) rfl,
  fun f s W g i l m p a => opv rfl rfl (by simp [go_sem, a.e 11 k_11]) rfl, trivial⟩ ?_
 intro f44 s44 W44 hB44 g44 hg44 z44
 have fB44 := hB44.f fB_
 have b44_0 := hB44.b bl_0
 have b44_1 := hB44.b bl_1
 have b44_2 := hB44.b bl_2
 have b44_3 := hB44.b bl_3
 have b44_4 := hB44.b bl_4
 have b44_5 := hB44.b bl_5
 have b44_6 := hB44.b bl_6
 have b44_7 := hB44.b bl_7
 have q172' := (ft_0.below hB44.below)
 have q173' := (ft_1.below hB44.below)
 have q174' := (ft_2.below hB44.below)
 have q175' := (ft_3.below hB44.below)
 have q176' := (ft_4.below hB44.below)
 have q177' := (ft_5.below hB44.below)
 have k44_5 := kt hg44 5 k_5
 have k44_8 := kt hg44 8 k_8
 have k44_97 := kt hg44 97 (hB44.is 4)
 have k44_98 := kt hg44 98 (hB44.is 5)
 obtain ⟨W45, hW45⟩ : ∃ W', W' = W44.setRow bk5 #[.int .i64 30, .slice (some ⟨g37', 0, none⟩) 4 c40', .int .i64 (hh + (dd 8)), .slice (some ⟨g38', 0, none⟩) 2 c41', .slice (some ⟨g39', 0, none⟩) 2 c42', .int .i64 9, .bool b.isOpen] := ⟨_, rfl⟩
 refine tsk (o := _) rfl ⟨rfl, rfl⟩ (run_seg hW45 (fr_ev k44_98) (fr_ev k44_97) b44_7 rfl rfl rfl rfl) ?_
 obtain ⟨fB45, nb45, ot45, z45⟩ := sgf hW45 fB44 b44_7 (by omega)
 clear hW45
 have b45_0 := ot45 _ _ nea b44_0
 have b45_1 := ot45 _ _ nea b44_1
 have b45_2 := ot45 _ _ nea b44_2
 have b45_3 := ot45 _ _ nea b44_3
 have b45_4 := ot45 _ _ nea b44_4
 have b45_5 := ot45 _ _ nea b44_5
 have b45_6 := ot45 _ _ nea b44_6
 have q178' := q172'.other ot45 (own_ne q172' b44_7) z45
 have q179' := q173'.other ot45 (own_ne q173' b44_7) z45
 have q180' := q174'.other ot45 (own_ne q174' b44_7) z45
 have q181' := q175'.other ot45 nea z45
 have q182' := q176'.other ot45 nea z45
 have q183' := q177'.other ot45 nea z45
 refine wpe ?_
 refine hK46 _ _ ?_
 refine wp_seq_k fun K47 hK47 => ?_
 as_aux_lemma =>
 refine ry 14 [(99, 0), (100, 1), (101, 2), (102, 3), (103, 4), (104, 5), (105, 6), (106, 7), (107, 8), (108, 9), (109, 10), (110, 11), (111, 12), (15, 13)] [[], [0], [], [2], [3], [], [5], [], [7], [6, 8], [4, 9], [10], [1, 11], [12]] (rel [is (.pointer (some ⟨bk2, 0, none⟩)), iI lo, is (.pointer (some ⟨bk0, 1, none⟩)), is (.int .u8 v1), iI v1, is (.pointer (some ⟨bk2, 1, none⟩)), iI hi, is (.pointer (some ⟨bk2, 0, none⟩)), iI lo, iI (hi - lo), iI (v1 * (hi - lo)), iI ((v1 * (hi - lo)) / 255), iI (lo + ((v1 * (hi - lo)) / 255)), iI (lo + ((v1 * (hi - lo)) / 255))])
  ⟨fun f s W g i l m p a => opv rfl rfl (by simp [go_sem, a.e 8 k44_8]) rfl,
  fun f s W g i l m p a => opv rfl rfl (by simp [go_sem, a.e 99 (i 0 rfl), cb b45_4 g 0]) rfl,
  fun f s W g i l m p a => opv rfl rfl (by simp [go_sem, a.e 5 k44_5]) rfl,
  fun f s W g i l m p a => opv rfl rfl (by simp [go_sem, a.e 101 (i 2 rfl), cb b45_2 g 1]) rfl,
  fun f s W g i l m p a => by have cv_ := IntWalk.i64_in v1 (by omega); exact opv rfl rfl (by simp [go_sem, a.e 102 (i 3 rfl), cv_]) rfl,
  fun f s W g i l m p a => opv rfl rfl (by simp [go_sem, a.e 8 k44_8]) rfl,
  fun f s W g i l m p a => opv rfl rfl (by simp [go_sem, a.e 104 (i 5 rfl), cb b45_4 g 1]) rfl,
  fun f s W g i l m p a => opv rfl rfl (by simp [go_sem, a.e 8 k44_8]) rfl,
  fun f s W g i l m p a => opv rfl rfl (by simp [go_sem, a.e 106 (i 7 rfl), cb b45_4 g 0]) rfl,
  fun f s W g i l m p a => opv rfl rfl (by simp [go_sem, a.e 105 (i 6 rfl), a.e 107 (i 8 rfl), IntWalk.i64_in (hi - lo) (by omega)]) rfl,
  fun f s W g i l m p a => opv rfl rfl (by simp [go_sem, a.e 103 (i 4 rfl), a.e 108 (i 9 rfl), IntWalk.i64_in (v1 * (hi - lo)) (by omega)]) rfl,
  fun f s W g i l m p a => by have qu_ : (v1 * (hi - lo)).tdiv 255 = (v1 * (hi - lo)) / 255 := Int.tdiv_eq_ediv_of_nonneg (by omega); have qw_ := IntWalk.i64_in ((v1 * (hi - lo)) / 255) (by omega); exact opv rfl rfl (by simp [go_sem, a.e 109 (i 10 rfl), qu_, qw_]) rfl,
  fun f s W g i l m p a => opv rfl rfl (by simp [go_sem, a.e 100 (i 1 rfl), a.e 110 (i 11 rfl), IntWalk.i64_in (lo + ((v1 * (hi - lo)) / 255)) (by omega)]) rfl,
  fun f s W g i l m p a => opm (a.v 111 (i 12 rfl)), trivial⟩ ?_
 intro f46 s46 W46 hB46 g46 hg46 z46
 have b46_4 := hB46.b b45_4
 have b46_5 := hB46.b b45_5
 have b46_7 := hB46.b nb45
 have q184' := (q178'.below hB46.below)
 have q185' := (q179'.below hB46.below)
 have q186' := (q180'.below hB46.below)
 have q187' := (q181'.below hB46.below)
 have q188' := (q182'.below hB46.below)
 have q189' := (q183'.below hB46.below)
 refine hK47 _ _ ?_
 have k46_8 := kt hg46 8 k44_8
 have k46_9 := kt hg46 9 (kt hg44 9 k_9)
 have k46_11 := kt hg46 11 (kt hg44 11 k_11)
 have k46_15 := kt hg46 15 (hB46.is 13)
 have kcal := k46_15.trans (by rw [hcal])
 change g46 15 = .int .i64 cal at kcal
 refine wp_seq_k fun K48 hK48 => ?_
 as_aux_lemma =>
 refine rz 10 [(113, 0), (114, 1), (115, 2), (116, 3), (117, 4), (112, 5), (118, 6), (119, 7), (16, 8), (17, 9)] [[], [0], [], [], [0, 1, 2, 3], [0, 1, 2, 3, 4], [0, 1, 2, 3, 4, 5], [0, 1, 2, 3, 4, 5], [0, 1, 2, 3, 4, 5, 6], [0, 1, 2, 3, 4, 5, 6, 7, 8]] (rel [is (.agg #[.int .i64 30, .slice (some ⟨g37', 0, none⟩) 4 c40', .int .i64 (hh + (dd 8)), .slice (some ⟨g38', 0, none⟩) 2 c41', .slice (some ⟨g39', 0, none⟩) 2 c42', .int .i64 9, .bool b.isOpen]),
   fun v s W => NwBlk (s 1) (sb) v W,
   is (.agg #[.int .i64 lo, .int .i64 hi]),
   is (.int .i64 off),
   ab fun v W => ∃ x0, v = .tuple #[x0, .int .i64 0] ∧ IsPp LI x0 W,
   ab fun v W => ∃ x0, v = .tuple #[x0, .int .i64 0] ∧ IsPp LI x0 W,
   ab fun v W => IsPp LI v W,
   is (.int .i64 0),
   ab fun v W => IsPp LI v W,
   is (.int .i64 0)])
  ⟨is_k, ⟨fun v k W W' hb h => h.below hb, fun v s s' W e h => by have h' : NwBlk (s 1) (sb) v W := h; show NwBlk (s' 1) (sb) v W; rw [← e 1 (by simp)]; exact h'⟩, is_k, is_k, ab_k fun v W W' hb ⟨x0, e, h0⟩ => ⟨x0, e, h0.below hb⟩, ab_k fun v W W' hb ⟨x0, e, h0⟩ => ⟨x0, e, h0.below hb⟩, ab_k fun v W W' hb h => h.below hb, is_k, ab_k fun v W W' hb h => h.below hb, is_k, trivial⟩
  ⟨fun f s W g i l m p a => opl rfl rfl rfl (a.v 11 k46_11) (bwb b46_7 g) Tryz.underlying24 rfl (by kernel_rfl) rfl,
  fun f s W g i l m p a => opd (args := #[.agg #[.int .i64 30, .slice (some ⟨g37', 0, none⟩) 4 c40', .int .i64 (hh + (dd 8)), .slice (some ⟨g38', 0, none⟩) 2 c41', .slice (some ⟨g39', 0, none⟩) 2 c42', .int .i64 9, .bool b.isOpen]]) rfl rfl (by simp [go_sem, a.e 113 (i 0 rfl)]) (own_lg (hsn.trans (by rw [← zp_0, ← zq_0])) _ _ _ _ _ _ W ((q187'.below g)).ii ((q189'.below g)).ii ((q188'.below g)).ii) (fun e W' h => by obtain ⟨v, e1, h1, h2⟩ := h; exact ⟨v, e1, h2, (show NwBlk (upd s 1 W.heap.size 1) (sb) v W' from by rw [upd_at]; exact h1)⟩),
  fun f s W g i l m p a => opv rfl rfl (by simp [go_sem, a.e 8 k46_8, cb b46_4 g 0, cb b46_4 g 1]) rfl,
  fun f s W g i l m p a => opv rfl rfl (by simp [go_sem, a.e 9 k46_9, cb b46_5 g 0]) rfl,
  fun f s W g i l m p a => by obtain ⟨g190', c193', g191', c194', g192', c195', d1, ⟨q196', q198', q197'⟩, ⟨q199', q201', q200'⟩, ⟨q202', q204', q203'⟩⟩ := (i 1 rfl); exact opd (args := #[.agg #[.int .i64 sb.tab, .slice (some ⟨g190', 0, none⟩) (sb.panels.length) c193', .int .i64 sb.height, .slice (some ⟨g191', 0, none⟩) (sb.top.length) c194', .slice (some ⟨g192', 0, none⟩) (sb.bottom.length) c195', .int .i64 sb.slot, .bool sb.isOpen], .agg #[.int .i64 lo, .int .i64 hi], .int .i64 off]) rfl rfl (by simp [go_sem, a.e 114 d1, a.e 115 (i 2 rfl), a.e 116 (i 3 rfl)]) (inner_ok (b := sb) lo hi off W ⟨_, _, _, _, _, _, _, _, _, rfl, q196', q199', q202'⟩ hcs j1 j2 j3 gof.1 gof.2) ((fun e W' h => by obtain ⟨x, e1, h1, h2⟩ := h; rw [hLI] at h1; exact ⟨_, e1, h2, _, rfl, h1⟩)),
  fun f s W g i l m p a => opv (v := (f 4)) rfl rfl (by simp [go_sem, (a.at' 117 rfl : p.tmps[117]?.getD undef = f 4)] <;> rfl) (i 4 rfl),
  fun f s W g i l m p a => by obtain ⟨x5_0, d5, p5_0⟩ := (i 5 rfl); exact opv (v := x5_0) rfl rfl (by simp [go_sem, a.e 112 d5]) p5_0,
  fun f s W g i l m p a => by obtain ⟨x5_0, d5, p5_0⟩ := (i 5 rfl); exact opv rfl rfl (by simp [go_sem, a.e 112 d5]) rfl,
  fun f s W g i l m p a => opv (v := (f 6)) rfl rfl (by simp [go_sem, (a.at' 118 rfl : p.tmps[118]?.getD undef = f 6)] <;> rfl) (i 6 rfl),
  fun f s W g i l m p a => opv rfl rfl (by simp [go_sem, a.e 119 (i 7 rfl)]) rfl, trivial⟩ ?_
 intro f47 s47 W47 hB47 g47 hg47 z47
 have q208' := (q184'.below hB47.below)
 have q209' := (q185'.below hB47.below)
 have q210' := (q186'.below hB47.below)
 have q211' := (q187'.below hB47.below)
 have q212' := (q188'.below hB47.below)
 have q213' := (q189'.below hB47.below)
 obtain ⟨a214', c215', r47_8, q216'⟩ := hB47.is 8
 have lim217' := Pp.lim q216'
 refine hK48 _ _ ?_
 have k47_16 := kt hg47 16 r47_8
 have k47_17 := kt hg47 17 (hB47.is 9)
 refine wp_seq_k fun K49 hK49 => ?_
 refine wp_seq_k fun K50 hK50 => ?_
 as_aux_lemma =>
 refine ry 7 [(120, 0), (121, 1), (122, 2), (123, 3), (124, 4), (125, 5), (126, 6)] [[], [0], [1], [2], [2, 3], [2, 4], [2, 5]] (rel [iI 0, iB false, iB false, is (.slice a214' (LI.length) c215'), iI ((LI.length : Int)), iB false, iB false])
  ⟨fun f s W g i l m p a => opm (a.v 17 k47_17),
  fun f s W g i l m p a => opv rfl rfl (by simp [go_sem, a.e 120 (i 0 rfl)]) rfl,
  fun f s W g i l m p a => opm (a.v 121 (i 1 rfl)),
  fun f s W g i l m p a => osure rfl rfl (a.says (d := 122) rfl rfl (i 2 rfl)) (gv (by simp [go_sem, a.e 16 k47_16]) rfl),
  fun f s W g i l m p a => osure rfl rfl (a.says (d := 122) rfl rfl (i 2 rfl)) (gv (by simp [go_sem, a.e 123 (i 3 rfl)]) rfl),
  fun f s W g i l m p a => osure rfl rfl (a.says (d := 122) rfl rfl (i 2 rfl)) (gv (by simp [go_sem, a.e 124 (i 4 rfl), hL9z]) rfl),
  fun f s W g i l m p a => opk (c := false) rfl rfl (fun _ => by simp [go_sem, a.e 122 (i 2 rfl), a.e 125 (i 5 rfl)]) (fun h => absurd h (by decide)), trivial⟩ ?_
 intro f48 s48 W48 hB48 g48 hg48 z48
 have fB48 := hB48.f (hB47.f (hB46.f fB45))
 have b48_0 := hB48.b (hB47.b (hB46.b b45_0))
 have b48_1 := hB48.b (hB47.b (hB46.b b45_1))
 have b48_2 := hB48.b (hB47.b (hB46.b b45_2))
 have b48_3 := hB48.b (hB47.b (hB46.b b45_3))
 have b48_4 := hB48.b (hB47.b b46_4)
 have b48_5 := hB48.b (hB47.b b46_5)
 have b48_6 := hB48.b (hB47.b (hB46.b b45_6))
 have b48_7 := hB48.b (hB47.b b46_7)
 have q218' := (q208'.below hB48.below)
 have q219' := (q209'.below hB48.below)
 have q220' := (q210'.below hB48.below)
 have q221' := (q211'.below hB48.below)
 have q222' := (q212'.below hB48.below)
 have q223' := (q213'.below hB48.below)
 have q224' := (q216'.bw hB48)
 refine hK50 _ _ ?_
 have k48_6 := kt hg48 6 (kt hg47 6 (kt hg46 6 (kt hg44 6 k_6)))
 have k48_7 := kt hg48 7 (kt hg47 7 (kt hg46 7 (kt hg44 7 k_7)))
 have k48_8 := kt hg48 8 (kt hg47 8 k46_8)
 have k48_9 := kt hg48 9 (kt hg47 9 k46_9)
 have k48_10 := kt hg48 10 (kt hg47 10 (kt hg46 10 (kt hg44 10 k_10)))
 have k48_11 := kt hg48 11 (kt hg47 11 k46_11)
 have k48_15 := kt hg48 15 (kt hg47 15 kcal)
 have k48_16 := kt hg48 16 k47_16
 have k48_126 := kt hg48 126 (hB48.is 6)
 refine wp_cond_false ((fr_eval rfl).trans k48_126) ?_
 refine wp_skip ?_
 refine hK49 _ _ ?_
 exact truth_main_c20 x gx ws v0 v1 gv0 gv1 b d sb vi p0 p1 p2 p3 hh t0 t1 u0 u1 lo hi off cal q1 q2 n dd LI w gws hbx ht hcx hto hv hkd hck hcs hwv hof gof hdd gdd hbl hsn gp0 gp1 gp2 gp3 ghh gt0 gt1 gu0 gu1 j1 j2 j3 gmu hcal gcal hLI hL9 hmic hM hn1 hn2 hM2 hF hq hq1 hq2 n1 n2 n3 g48 W48 bk1 bk2 bk3 bk4 bk5 a214' c215' g19' c22' g20' c23' g21' c24' g37' c40' g39' c42' g38' c41' bk7 bk6 bk0 zt0 zt1 k48_6 k48_7 k48_8 k48_9 k48_10 k48_11 k48_15 k48_16 fB48 b48_0 b48_1 b48_2 b48_3 b48_4 b48_5 b48_6 b48_7 q218' q219' q220' q221' q222' q223' q224' (by omega) (by omega) (by omega) (by omega) (by omega) (by omega) (by omega) (by omega) nea nea nea nea nea nea nea nea nea nea nea nea nea nea nea nea nea nea nea nea nea nea nea nea nea nea nea nea nea nea nea nea nea nea nea nea nea nea nea nea nea nea nea nea nea nea nea nea nea nea nea nea nea nea nea zp_0 zq_0
end Go.Proofs.YthnediamopehfaaGreat
