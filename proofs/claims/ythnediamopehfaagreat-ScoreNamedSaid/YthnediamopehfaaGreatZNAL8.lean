/- Part of the proof: what the claim leans on. -/
import Derived.Test.YthnediamopehfaaGreatZNAL7
set_option linter.unusedSimpArgs false
set_option linter.unusedVariables false
namespace Go.Proofs.YthnediamopehfaaGreat
open Go.RowKit
set_option maxRecDepth 100000 in
set_option maxHeartbeats 40000000 in
theorem named_main_c7 (x y : Sh) (gx : ShIn x) (gy : ShIn y) (b d t : Bl) (vi : Wi) (lo hi lo' hi' F q1 q2 : Int) (L : List Sp) (w : World) (hbx : shBl x = b) (hby : shBl y = d) (hcx : shCal x = (lo, hi)) (hcy : shCal y = (lo', hi')) (ht : twinB d = t) (hto : t.isOpen = vi.isOpen) (hv : wishOf y t lo' hi' = vi) (hck : checkErr b = 0) (hkd : checkErr d = 0) (hkt : checkErr t = 0) (hwi : wishErr vi = 0) (j1 : 1 ≤ lo) (j2 : lo ≤ hi) (j3 : hi ≤ 10000) (j4 : 1 ≤ lo') (j5 : lo' ≤ hi') (j6 : hi' ≤ 10000) (hL : closeL b vi (lo, hi) = L) (hF : calErr b vi = F) (hq : calOf b vi = (q1, q2)) (n1 : b.panels.length ≤ 1000) (n2 : b.top.length ≤ 1000) (n3 : b.bottom.length ≤ 1000) (hFd : (F != 0) = true → (F != 7) = false) (hzz : ((L.length : Int) == 0) = (((F == 0) && decide (q1 ≤ lo)) && decide (hi ≤ q2))) (hasc : ∀ i : Nat, i < L.length → 0 < (i : Int) → ¬ (nthP L i).1 ≤ (nthP L (i - 1)).1) (hnam : ∀ i : Nat, i < L.length → (0 ≤ (nthP L i).1 ∧ (nthP L i).1 ≤ 9) ∧ (lo ≤ (nthP L i).2 ∧ (nthP L i).2 ≤ hi) ∧ namedB (closeL b vi ((nthP L i).2, (nthP L i).2)) (nthP L i).1 = true ∧ (lo < (nthP L i).2 → namedB (closeL b vi (lo, (nthP L i).2 - 1)) (nthP L i).1 = false)) (hcb : F ≠ 0 → q1 = 0 ∧ q2 = 0) (hcg : F = 0 → 1 ≤ q1 ∧ q2 ≤ 10000 ∧ q1 ≤ q2) (hcs1 : F = 0 → 1 ≤ q1 - 1 ∧ q1 - 1 ≤ 10000 → (((closeL b vi (q1 - 1, q1 - 1)).length : Int) == 0) = false) (hcs2 : F = 0 → 1 ≤ q2 + 1 ∧ q2 + 1 ≤ 10000 → (((closeL b vi (q2 + 1, q2 + 1)).length : Int) == 0) = false) (hcz : F = 0 → (((closeL b vi (q1, q2)).length : Int) == 0) = true) (g_ : Nat → Value) (W_ : World) (bk1 : Nat) (bk2 : Nat) (bk4 : Nat) (a61' : Option Addr) (c62' : Nat) (bk5 : Nat) (g1' : Nat) (c4' : Nat) (g2' : Nat) (c5' : Nat) (g3' : Nat) (c6' : Nat) (bk3 : Nat) (bk0 : Nat)  (k_4 : g_ 4 = .bool false) (k_5 : g_ 5 = .pointer (some ⟨bk1, 0, none⟩)) (k_6 : g_ 6 = .pointer (some ⟨bk2, 0, none⟩)) (k_7 : g_ 7 = .pointer (some ⟨bk4, 0, none⟩)) (k_8 : g_ 8 = .slice (a61') (L.length) (c62')) (k_10 : g_ 10 = .pointer (some ⟨bk5, 0, none⟩)) (k_11 : g_ 11 = .int .i64 F) (fB_ : Below w.heap.size w W_) (bl_0 : W_.heap[bk3]? = some (.cells #[.int .u8 x.x0, .int .u8 x.x1, .int .u8 x.x2, .int .u8 x.x3, .int .u8 x.xh, .int .u8 x.y0, .int .u8 x.y1, .int .u8 x.y2, .int .u8 x.y3, .bool x.xo, .int .u8 x.ca, .int .u8 x.cb, .int .u8 x.v0, .int .u8 x.v1, .int .u8 x.v2, .int .u8 x.v3, .int .u8 x.v4] 72 (0, 0))) (bl_1 : W_.heap[bk0]? = some (.cells #[.int .u8 y.x0, .int .u8 y.x1, .int .u8 y.x2, .int .u8 y.x3, .int .u8 y.xh, .int .u8 y.y0, .int .u8 y.y1, .int .u8 y.y2, .int .u8 y.y3, .bool y.xo, .int .u8 y.ca, .int .u8 y.cb, .int .u8 y.v0, .int .u8 y.v1, .int .u8 y.v2, .int .u8 y.v3, .int .u8 y.v4] 72 (0, 0))) (bl_2 : W_.heap[bk1]? = some (.cells #[.int .i64 b.tab, .slice (some ⟨g1', 0, none⟩) (b.panels.length) (c4'), .int .i64 b.height, .slice (some ⟨g2', 0, none⟩) (b.top.length) (c5'), .slice (some ⟨g3', 0, none⟩) (b.bottom.length) (c6'), .int .i64 b.slot, .bool b.isOpen] 24 (0, 0))) (bl_3 : W_.heap[bk2]? = some (.cells #[.int .i64 lo, .int .i64 hi] 26 (0, 0))) (bl_4 : W_.heap[bk4]? = some (.cells #[.int .i64 vi.length.1, .int .i64 vi.length.2, .int .i64 vi.width.1, .int .i64 vi.width.2, .int .i64 vi.height.1, .int .i64 vi.height.2, .int .i64 vi.outer.1, .int .i64 vi.outer.2, .int .i64 vi.inner.1, .int .i64 vi.inner.2, .bool vi.isOpen] 43 (0, 0))) (bl_5 : W_.heap[bk5]? = some (.cells #[.int .i64 q1, .int .i64 q2] 26 (0, 0))) (ft_0 : OwnI 0 b.panels g1' c4' W_) (ft_1 : OwnI 0 b.top g2' c5' W_) (ft_2 : OwnI 0 b.bottom g3' c6' W_) (ft_3 : Pp W_ a61' L.length c62' L) (lw_bk3 : w.heap.size ≤ bk3) (lw_bk0 : w.heap.size ≤ bk0) (lw_bk1 : w.heap.size ≤ bk1) (lw_bk2 : w.heap.size ≤ bk2) (lw_bk4 : w.heap.size ≤ bk4) (lw_bk5 : w.heap.size ≤ bk5) (ne_0_1 : bk3 ≠ bk0) (ne_0_2 : bk3 ≠ bk1) (ne_1_2 : bk0 ≠ bk1) (ne_0_3 : bk3 ≠ bk2) (ne_1_3 : bk0 ≠ bk2) (ne_2_3 : bk1 ≠ bk2) (ne_0_4 : bk3 ≠ bk4) (ne_1_4 : bk0 ≠ bk4) (ne_2_4 : bk1 ≠ bk4) (ne_3_4 : bk2 ≠ bk4) (ne_0_5 : bk3 ≠ bk5) (ne_1_5 : bk0 ≠ bk5) (ne_2_5 : bk1 ≠ bk5) (ne_3_5 : bk2 ≠ bk5) (ne_4_5 : bk4 ≠ bk5) :
    (tailC 6 (bodyC Tryz.f8)).wp Tryz.prog (bodyPost Tryz.prog Tryz.f8 (fun e w' => e = .returned (.bool true) ∧ Below w.heap.size w w')) (fr 281 g_) W_ := by
  have hll0 := hck
  have lt_bk3 := lt_of_blk bl_0
  have lt_bk0 := lt_of_blk bl_1
  have lt_bk1 := lt_of_blk bl_2
  have lt_bk2 := lt_of_blk bl_3
  have lt_bk4 := lt_of_blk bl_4
  have lt_bk5 := lt_of_blk bl_5
  have lim89' := Pp.lim ft_3
  refine wp_seq_k fun K9 hK9 => ?_
  refine wp_seq_k fun K10 hK10 => ?_
  as_aux_lemma =>
  refine region_do 1 [(12, 0)] [[]] (rel [is (.int .i64 0)]) (by kernel_rfl) (by kernel_rfl) (by kernel_rfl) (by kernel_rfl)
    ⟨is_k, trivial⟩
    ⟨fun f s W hW hd hs hz ac hac => opv rfl rfl (by simp [go_sem]) rfl, trivial⟩ ?_
  intro f12 s12 W12 hB12
  have fB12 : Below w.heap.size w W12 := below_trans fB_ hB12.below
  have z12 : W_.heap.size ≤ W12.heap.size := hB12.below.size
  have b12_0 := blk_below bl_0 hB12.below
  have b12_1 := blk_below bl_1 hB12.below
  have b12_2 := blk_below bl_2 hB12.below
  have b12_3 := blk_below bl_3 hB12.below
  have b12_4 := blk_below bl_4 hB12.below
  have b12_5 := blk_below bl_5 hB12.below
  have q90' := (ft_0.below hB12.below)
  have q91' := (ft_1.below hB12.below)
  have q92' := (ft_2.below hB12.below)
  have q93' := (ft_3.below hB12.below (Nat.le_refl _))
  refine hK10 _ _ ?_
  generalize hg12 : ov [(12, 0)] f12 g_ = g12
  have k12_4 := kt hg12 4 k_4
  have k12_5 := kt hg12 5 k_5
  have k12_6 := kt hg12 6 k_6
  have k12_7 := kt hg12 7 k_7
  have k12_8 := kt hg12 8 k_8
  have k12_10 := kt hg12 10 k_10
  have k12_11 := kt hg12 11 k_11
  have k12_12 := kt hg12 12 (hB12.is 0)
  refine wp_block ?_
  refine wp_loop_n (fun m_ a_ W_ => ∃ g_ : Nat → Value, a_ = fr 281 g_ ∧ (∃ i : Nat, m_ = L.length - i ∧ g_ 4 = .bool false ∧ g_ 5 = .pointer (some ⟨bk1, 0, none⟩) ∧ g_ 6 = .pointer (some ⟨bk2, 0, none⟩) ∧ g_ 7 = .pointer (some ⟨bk4, 0, none⟩) ∧ g_ 8 = .slice (a61') (L.length) (c62') ∧ g_ 10 = .pointer (some ⟨bk5, 0, none⟩) ∧ g_ 11 = .int .i64 F ∧ g_ 12 = .int .i64 ((i : Int)) ∧ Below w.heap.size w W_ ∧ W12.heap.size ≤ W_.heap.size ∧ W_.heap[bk3]? = some (.cells #[.int .u8 x.x0, .int .u8 x.x1, .int .u8 x.x2, .int .u8 x.x3, .int .u8 x.xh, .int .u8 x.y0, .int .u8 x.y1, .int .u8 x.y2, .int .u8 x.y3, .bool x.xo, .int .u8 x.ca, .int .u8 x.cb, .int .u8 x.v0, .int .u8 x.v1, .int .u8 x.v2, .int .u8 x.v3, .int .u8 x.v4] 72 (0, 0)) ∧ W_.heap[bk0]? = some (.cells #[.int .u8 y.x0, .int .u8 y.x1, .int .u8 y.x2, .int .u8 y.x3, .int .u8 y.xh, .int .u8 y.y0, .int .u8 y.y1, .int .u8 y.y2, .int .u8 y.y3, .bool y.xo, .int .u8 y.ca, .int .u8 y.cb, .int .u8 y.v0, .int .u8 y.v1, .int .u8 y.v2, .int .u8 y.v3, .int .u8 y.v4] 72 (0, 0)) ∧ W_.heap[bk1]? = some (.cells #[.int .i64 b.tab, .slice (some ⟨g1', 0, none⟩) (b.panels.length) (c4'), .int .i64 b.height, .slice (some ⟨g2', 0, none⟩) (b.top.length) (c5'), .slice (some ⟨g3', 0, none⟩) (b.bottom.length) (c6'), .int .i64 b.slot, .bool b.isOpen] 24 (0, 0)) ∧ W_.heap[bk2]? = some (.cells #[.int .i64 lo, .int .i64 hi] 26 (0, 0)) ∧ W_.heap[bk4]? = some (.cells #[.int .i64 vi.length.1, .int .i64 vi.length.2, .int .i64 vi.width.1, .int .i64 vi.width.2, .int .i64 vi.height.1, .int .i64 vi.height.2, .int .i64 vi.outer.1, .int .i64 vi.outer.2, .int .i64 vi.inner.1, .int .i64 vi.inner.2, .bool vi.isOpen] 43 (0, 0)) ∧ W_.heap[bk5]? = some (.cells #[.int .i64 q1, .int .i64 q2] 26 (0, 0)) ∧ OwnI 0 b.panels g1' c4' W_ ∧ OwnI 0 b.top g2' c5' W_ ∧ OwnI 0 b.bottom g3' c6' W_ ∧ Pp W_ a61' L.length c62' L ∧ (i ≤ L.length))) ⟨_, g12, rfl, 0, rfl, k12_4, k12_5, k12_6, k12_7, k12_8, k12_10, k12_11, k12_12.trans (by rfl), fB12, Nat.le_refl _, b12_0, b12_1, b12_2, b12_3, b12_4, b12_5, q90', q91', q92', q93', (by omega)⟩ ?_
  rintro _ _ W_94 ⟨g_94, rfl, i, rfl, k_94_4, k_94_5, k_94_6, k_94_7, k_94_8, k_94_10, k_94_11, k_94_12, fB_94, z_94, b_94_0, b_94_1, b_94_2, b_94_3, b_94_4, b_94_5, q95', q96', q97', q98', lp0⟩
  refine wp_seq_k fun K11 hK11 => ?_
  refine wp_seq_k fun K12 hK12 => ?_
  as_aux_lemma =>
  refine region_do 4 [(81, 0), (82, 1), (83, 2), (84, 3)] [[], [], [1], [0, 1, 2]] (rel [is (.int .i64 ((i : Int))),
      is (.slice (a61') (L.length) (c62')),
      is (.int .i64 ((L.length : Int))),
      is (.bool (decide ((i : Int) < (L.length : Int))))]) (by kernel_rfl) (by kernel_rfl) (by kernel_rfl) (by kernel_rfl)
    ⟨is_k, is_k, is_k, is_k, trivial⟩
    ⟨fun f s W hW hd hs hz ac hac => opv rfl rfl (by simp [go_sem, hac.e 12 k_94_12]) rfl,
    fun f s W hW hd hs hz ac hac => opv rfl rfl (by simp [go_sem, hac.e 8 k_94_8]) rfl,
    fun f s W hW hd hs hz ac hac => opv rfl rfl (by simp [go_sem, hac.e 82 (hd 1 rfl)]) rfl,
    fun f s W hW hd hs hz ac hac => opv rfl rfl (by simp [go_sem, hac.e 81 (hd 0 rfl), hac.e 83 (hd 2 rfl)]) rfl, trivial⟩ ?_
  intro f13 s13 W13 hB13
  have fB13 : Below w.heap.size w W13 := below_trans fB_94 hB13.below
  have z13 : W_94.heap.size ≤ W13.heap.size := hB13.below.size
  have b13_0 := blk_below b_94_0 hB13.below
  have b13_1 := blk_below b_94_1 hB13.below
  have b13_2 := blk_below b_94_2 hB13.below
  have b13_3 := blk_below b_94_3 hB13.below
  have b13_4 := blk_below b_94_4 hB13.below
  have b13_5 := blk_below b_94_5 hB13.below
  have q99' := (q95'.below hB13.below)
  have q100' := (q96'.below hB13.below)
  have q101' := (q97'.below hB13.below)
  have q102' := (q98'.below hB13.below (Nat.le_refl _))
  refine hK12 _ _ ?_
  generalize hg13 : ov [(81, 0), (82, 1), (83, 2), (84, 3)] f13 g_94 = g13
  have k13_4 := kt hg13 4 k_94_4
  have k13_5 := kt hg13 5 k_94_5
  have k13_6 := kt hg13 6 k_94_6
  have k13_7 := kt hg13 7 k_94_7
  have k13_8 := kt hg13 8 k_94_8
  have k13_10 := kt hg13 10 k_94_10
  have k13_11 := kt hg13 11 k_94_11
  have k13_12 := kt hg13 12 k_94_12
  have k13_84 := kt hg13 84 (hB13.is 3)
  refine wp_cond_split (t := decide ((i : Int) < (L.length : Int))) ((fr_eval rfl).trans k13_84) (fun hc13 => ?_) (fun hc13 => ?_)
  ·
    have hc13' := hc13; try simp only [decide_eq_true_eq, decide_eq_false_iff_not, Bool.and_eq_true, Bool.or_eq_true, Bool.and_eq_false_iff, Bool.or_eq_false_iff, beq_iff_eq, bne_iff_ne, Bool.not_eq_true', Bool.not_eq_false', ne_eq, bne_eq_false_iff_eq, beq_eq_false_iff_ne] at hc13'
    have li0 : i < L.length := by omega
    obtain ⟨bq, oq, hab⟩ := q102'.at' (by omega)
    have hll := q102'.len_le
    have li := Nat.not_le.2 li0
    obtain ⟨⟨hn1, hn1'⟩, ⟨hn2, hn2'⟩, hn3, hn4⟩ := hnam i li0
    have hn1a := Int.not_lt.2 hn1
    have hn1b := Int.not_lt.2 hn1'
    have hn2a := Int.not_lt.2 hn2
    have hn2b := Int.not_lt.2 hn2'
    refine wp_skip ?_
    refine hK11 _ _ ?_
    refine wp_seq_k fun K14 hK14 => ?_
    refine wp_block ?_
    refine wp_seq_k fun K15 hK15 => ?_
    refine wp_seq_k fun K16 hK16 => ?_
    as_aux_lemma =>
    refine region_do 52 [(87, 0), (88, 1), (89, 2), (90, 3), (91, 4), (92, 5), (93, 6), (94, 7), (95, 8), (96, 9), (97, 10), (98, 11), (99, 12), (100, 13), (101, 14), (102, 15), (103, 16), (104, 17), (105, 18), (106, 19), (107, 20), (108, 21), (109, 22), (110, 23), (111, 24), (112, 25), (113, 26), (114, 27), (115, 28), (116, 29), (117, 30), (118, 31), (119, 32), (120, 33), (121, 34), (122, 35), (123, 36), (124, 37), (125, 38), (126, 39), (127, 40), (128, 41), (129, 42), (130, 43), (131, 44), (132, 45), (133, 46), (134, 47), (135, 48), (136, 49), (137, 50), (138, 51)] [[], [], [0, 1], [0, 1, 2], [0, 1, 2, 3], [0, 1, 2, 3, 4], [0, 1, 2, 3, 4, 5], [0, 1, 2, 3, 4, 5, 6], [0, 1, 2, 3, 4, 5, 6], [0, 1, 2, 3, 4, 5, 6, 7, 8], [0, 1, 2, 3, 4, 5, 6, 7, 8, 9], [0, 1, 2, 3, 4, 5, 6, 7, 8, 9, 10], [0, 1, 2, 3, 4, 5, 6, 7, 8, 9, 10, 11], [0, 1, 2, 3, 4, 5, 6, 7, 8, 9, 10, 11, 12], [0, 1, 2, 3, 4, 5, 6, 7, 8, 9, 10, 11, 12, 13], [0, 1, 2, 3, 4, 5, 6, 7, 8, 9, 10, 11, 12, 13, 14], [0, 1, 2, 3, 4, 5, 6, 7, 8, 9, 10, 11, 12, 13, 14, 15], [0, 1, 2, 3, 4, 5, 6, 7, 8, 9, 10, 11, 12, 13, 14, 15, 16], [0, 1, 2, 3, 4, 5, 6, 7, 8, 9, 10, 11, 12, 13, 14, 15, 16, 17], [0, 1, 2, 3, 4, 5, 6, 7, 8, 9, 10, 11, 12, 13, 14, 15, 16, 17], [0, 1, 2, 3, 4, 5, 6, 7, 8, 9, 10, 11, 12, 13, 14, 15, 16, 17, 18, 19], [0, 1, 2, 3, 4, 5, 6, 7, 8, 9, 10, 11, 12, 13, 14, 15, 16, 17, 18, 19, 20], [0, 1, 2, 3, 4, 5, 6, 7, 8, 9, 10, 11, 12, 13, 14, 15, 16, 17, 18, 19, 20, 21], [0, 1, 2, 3, 4, 5, 6, 7, 8, 9, 10, 11, 12, 13, 14, 15, 16, 17], [0, 1, 2, 3, 4, 5, 6, 7, 8, 9, 10, 11, 12, 13, 14, 15, 16, 17], [0, 1, 2, 3, 4, 5, 6, 7, 8, 9, 10, 11, 12, 13, 14, 15, 16, 17, 24], [0, 1, 2, 3, 4, 5, 6, 7, 8, 9, 10, 11, 12, 13, 14, 15, 16, 17, 23, 24, 25], [0, 1, 2, 3, 4, 5, 6, 7, 8, 9, 10, 11, 12, 13, 14, 15, 16, 17, 23, 24, 25, 26], [0, 1, 2, 3, 4, 5, 6, 7, 8, 9, 10, 11, 12, 13, 14, 15, 16, 17, 23, 24, 25, 26, 27], [0, 1, 2, 3, 4, 5, 6, 7, 8, 9, 10, 11, 12, 13, 14, 15, 16, 17, 18, 19, 20, 21, 22, 23, 24, 25, 26, 27, 28], [0, 1, 2, 3, 4, 5, 6, 7, 8, 9, 10, 11, 12, 13, 14, 15, 16, 17, 18, 19, 20, 21, 22, 23, 24, 25, 26, 27, 28, 29], [0, 1, 2, 3, 4, 5, 6, 7, 8, 9, 10, 11, 12, 13, 14, 15, 16, 17, 18, 19, 20, 21, 22, 23, 24, 25, 26, 27, 28, 29, 30], [0, 1, 2, 3, 4, 5, 6, 7, 8, 9, 10, 11, 12, 13, 14, 15, 16, 17, 18, 19, 20, 21, 22, 23, 24, 25, 26, 27, 28, 29, 30, 31], [0, 1, 2, 3, 4, 5, 6, 7, 8, 9, 10, 11, 12, 13, 14, 15, 16, 17, 18, 19, 20, 21, 22, 23, 24, 25, 26, 27, 28, 29, 30, 31, 32], [0, 1, 2, 3, 4, 5, 6, 7, 8, 9, 10, 11, 12, 13, 14, 15, 16, 17, 18, 19, 20, 21, 22, 23, 24, 25, 26, 27, 28, 29, 30, 31, 32], [0, 1, 2, 3, 4, 5, 6, 7, 8, 9, 10, 11, 12, 13, 14, 15, 16, 17, 18, 19, 20, 21, 22, 23, 24, 25, 26, 27, 28, 29, 30, 31, 32, 33, 34], [0, 1, 2, 3, 4, 5, 6, 7, 8, 9, 10, 11, 12, 13, 14, 15, 16, 17, 18, 19, 20, 21, 22, 23, 24, 25, 26, 27, 28, 29, 30, 31, 32, 33, 34, 35], [0, 1, 2, 3, 4, 5, 6, 7, 8, 9, 10, 11, 12, 13, 14, 15, 16, 17, 18, 19, 20, 21, 22, 23, 24, 25, 26, 27, 28, 29, 30, 31, 32, 33, 34, 35, 36], [0, 1, 2, 3, 4, 5, 6, 7, 8, 9, 10, 11, 12, 13, 14, 15, 16, 17, 18, 19, 20, 21, 22, 23, 24, 25, 26, 27, 28, 29, 30, 31, 32], [0, 1, 2, 3, 4, 5, 6, 7, 8, 9, 10, 11, 12, 13, 14, 15, 16, 17, 18, 19, 20, 21, 22, 23, 24, 25, 26, 27, 28, 29, 30, 31, 32, 38], [0, 1, 2, 3, 4, 5, 6, 7, 8, 9, 10, 11, 12, 13, 14, 15, 16, 17, 18, 19, 20, 21, 22, 23, 24, 25, 26, 27, 28, 29, 30, 31, 32, 33, 34, 35, 36, 37, 38, 39], [0, 1, 2, 3, 4, 5, 6, 7, 8, 9, 10, 11, 12, 13, 14, 15, 16, 17, 18, 19, 20, 21, 22, 23, 24, 25, 26, 27, 28, 29, 30, 31, 32, 33, 34, 35, 36, 37, 38, 39, 40], [0, 1, 2, 3, 4, 5, 6, 7, 8, 9, 10, 11, 12, 13, 14, 15, 16, 17, 18, 19, 20, 21, 22, 23, 24, 25, 26, 27, 28, 29, 30, 31, 32, 33, 34, 35, 36, 37, 38, 39, 40, 41], [0, 1, 2, 3, 4, 5, 6, 7, 8, 9, 10, 11, 12, 13, 14, 15, 16, 17, 18, 19, 20, 21, 22, 23, 24, 25, 26, 27, 28, 29, 30, 31, 32, 33, 34, 35, 36, 37, 38, 39, 40, 41, 42], [0, 1, 2, 3, 4, 5, 6, 7, 8, 9, 10, 11, 12, 13, 14, 15, 16, 17, 18, 19, 20, 21, 22, 23, 24, 25, 26, 27, 28, 29, 30, 31, 32, 33, 34, 35, 36, 37, 38, 39, 40, 41, 42], [0, 1, 2, 3, 4, 5, 6, 7, 8, 9, 10, 11, 12, 13, 14, 15, 16, 17, 18, 19, 20, 21, 22, 23, 24, 25, 26, 27, 28, 29, 30, 31, 32, 33, 34, 35, 36, 37, 38, 39, 40, 41, 42, 43, 44], [0, 1, 2, 3, 4, 5, 6, 7, 8, 9, 10, 11, 12, 13, 14, 15, 16, 17, 18, 19, 20, 21, 22, 23, 24, 25, 26, 27, 28, 29, 30, 31, 32, 33, 34, 35, 36, 37, 38, 39, 40, 41, 42, 43, 44, 45], [0, 1, 2, 3, 4, 5, 6, 7, 8, 9, 10, 11, 12, 13, 14, 15, 16, 17, 18, 19, 20, 21, 22, 23, 24, 25, 26, 27, 28, 29, 30, 31, 32, 33, 34, 35, 36, 37, 38, 39, 40, 41, 42, 43, 44, 45, 46], [0, 1, 2, 3, 4, 5, 6, 7, 8, 9, 10, 11, 12, 13, 14, 15, 16, 17, 18, 19, 20, 21, 22, 23, 24, 25, 26, 27, 28, 29, 30, 31, 32, 33, 34, 35, 36, 37, 38, 39, 40, 41, 42], [0, 1, 2, 3, 4, 5, 6, 7, 8, 9, 10, 11, 12, 13, 14, 15, 16, 17, 18, 19, 20, 21, 22, 23, 24, 25, 26, 27, 28, 29, 30, 31, 32, 33, 34, 35, 36, 37, 38, 39, 40, 41, 42, 48], [0, 1, 2, 3, 4, 5, 6, 7, 8, 9, 10, 11, 12, 13, 14, 15, 16, 17, 18, 19, 20, 21, 22, 23, 24, 25, 26, 27, 28, 29, 30, 31, 32, 33, 34, 35, 36, 37, 38, 39, 40, 41, 42, 43, 44, 45, 46, 47, 48, 49], [0, 1, 2, 3, 4, 5, 6, 7, 8, 9, 10, 11, 12, 13, 14, 15, 16, 17, 18, 19, 20, 21, 22, 23, 24, 25, 26, 27, 28, 29, 30, 31, 32, 33, 34, 35, 36, 37, 38, 39, 40, 41, 42, 43, 44, 45, 46, 47, 48, 49, 50]] (rel [is (.slice (a61') (L.length) (c62')),
      is (.int .i64 ((i : Int))),
      is (.pointer (some ⟨bq, oq + i * 2, none⟩)),
      is (.pointer (some ⟨bq, oq + i * 2, none⟩)),
      is (.int .i64 (((nthP L i).1))),
      is (.bool false),
      is (.bool false),
      is (.slice (a61') (L.length) (c62')),
      is (.int .i64 ((i : Int))),
      is (.pointer (some ⟨bq, oq + i * 2, none⟩)),
      is (.pointer (some ⟨bq, oq + i * 2, none⟩)),
      is (.int .i64 (((nthP L i).1))),
      is (.bool false),
      is (.bool false),
      is (.bool false),
      is (.int .i64 ((i : Int))),
      is (.bool (decide (0 < (i : Int)))),
      is (.bool (decide (0 < (i : Int)))),
      gd (decide (0 < (i : Int))) true (is (.slice (a61') (L.length) (c62'))),
      gd (decide (0 < (i : Int))) true (is (.int .i64 ((i : Int)))),
      gd (decide (0 < (i : Int))) true (is (.pointer (some ⟨bq, oq + i * 2, none⟩))),
      gd (decide (0 < (i : Int))) true (is (.pointer (some ⟨bq, oq + i * 2, none⟩))),
      gd (decide (0 < (i : Int))) true (is (.int .i64 (((nthP L i).1)))),
      gd (decide (0 < (i : Int))) true (is (.slice (a61') (L.length) (c62'))),
      gd (decide (0 < (i : Int))) true (is (.int .i64 ((i : Int)))),
      gd (decide (0 < (i : Int))) true (is (.int .i64 ((i : Int) - 1))),
      gd (decide (0 < (i : Int))) true (is (.pointer (some ⟨bq, oq + (i - 1) * 2, none⟩))),
      gd (decide (0 < (i : Int))) true (is (.pointer (some ⟨bq, oq + (i - 1) * 2, none⟩))),
      gd (decide (0 < (i : Int))) true (is (.int .i64 (((nthP L (i - 1)).1)))),
      gd (decide (0 < (i : Int))) true (is (.bool false)),
      is (.bool false),
      is (.bool false),
      is (.bool false),
      is (.slice (a61') (L.length) (c62')),
      is (.int .i64 ((i : Int))),
      is (.pointer (some ⟨bq, oq + i * 2, none⟩)),
      is (.pointer (some ⟨bq, oq + i * 2 + 1, none⟩)),
      is (.int .i64 (((nthP L i).2))),
      is (.pointer (some ⟨bk2, 0, none⟩)),
      is (.int .i64 lo),
      is (.bool false),
      is (.bool false),
      is (.bool false),
      is (.slice (a61') (L.length) (c62')),
      is (.int .i64 ((i : Int))),
      is (.pointer (some ⟨bq, oq + i * 2, none⟩)),
      is (.pointer (some ⟨bq, oq + i * 2 + 1, none⟩)),
      is (.int .i64 (((nthP L i).2))),
      is (.pointer (some ⟨bk2, 1, none⟩)),
      is (.int .i64 hi),
      is (.bool false),
      is (.bool false)]) (by kernel_rfl) (by kernel_rfl) (by kernel_rfl) (by kernel_rfl)
      ⟨is_k, is_k, is_k, is_k, is_k, is_k, is_k, is_k, is_k, is_k, is_k, is_k, is_k, is_k, is_k, is_k, is_k, is_k, gd_k (is_k), gd_k (is_k), gd_k (is_k), gd_k (is_k), gd_k (is_k), gd_k (is_k), gd_k (is_k), gd_k (is_k), gd_k (is_k), gd_k (is_k), gd_k (is_k), gd_k (is_k), is_k, is_k, is_k, is_k, is_k, is_k, is_k, is_k, is_k, is_k, is_k, is_k, is_k, is_k, is_k, is_k, is_k, is_k, is_k, is_k, is_k, is_k, trivial⟩
      ⟨fun f s W hW hd hs hz ac hac => opv rfl rfl (by simp [go_sem, hac.e 8 k13_8]) rfl,
    fun f s W hW hd hs hz ac hac => opv rfl rfl (by simp [go_sem, hac.e 12 k13_12]) rfl,
    fun f s W hW hd hs hz ac hac => opv rfl rfl (by simp [go_sem, hac.e 87 (hd 0 rfl), hac.e 88 (hd 1 rfl), hab, li]) rfl,
    fun f s W hW hd hs hz ac hac => opv rfl rfl (by simp [go_sem, hac.e 89 (hd 2 rfl)]) rfl,
    fun f s W hW hd hs hz ac hac => by have cu := (pp_nth (i := i) (q102'.below hW (Nat.le_refl _)) hab (by omega)).1; exact opv rfl rfl (by simp [go_sem, hac.e 90 (hd 3 rfl), cu]) rfl,
    fun f s W hW hd hs hz ac hac => opv rfl rfl (by simp [go_sem, hac.e 91 (hd 4 rfl), hn1a]) rfl,
    fun f s W hW hd hs hz ac hac => opv rfl rfl (by simp [go_sem, hac.e 92 (hd 5 rfl)]) rfl,
    fun f s W hW hd hs hz ac hac => osure rfl rfl (hac.says (d := 93) rfl rfl (hd 6 rfl)) (gv (by simp [go_sem, hac.e 8 k13_8]) rfl),
    fun f s W hW hd hs hz ac hac => osure rfl rfl (hac.says (d := 93) rfl rfl (hd 6 rfl)) (gv (by simp [go_sem, hac.e 12 k13_12]) rfl),
    fun f s W hW hd hs hz ac hac => osure rfl rfl (hac.says (d := 93) rfl rfl (hd 6 rfl)) (gv (by simp [go_sem, hac.e 94 (hd 7 rfl), hac.e 95 (hd 8 rfl), hab, li]) rfl),
    fun f s W hW hd hs hz ac hac => osure rfl rfl (hac.says (d := 93) rfl rfl (hd 6 rfl)) (gv (by simp [go_sem, hac.e 96 (hd 9 rfl)]) rfl),
    fun f s W hW hd hs hz ac hac => osure rfl rfl (hac.says (d := 93) rfl rfl (hd 6 rfl)) (by have cu := (pp_nth (i := i) (q102'.below hW (Nat.le_refl _)) hab (by omega)).1; exact gv (by simp [go_sem, hac.e 97 (hd 10 rfl), cu]) rfl),
    fun f s W hW hd hs hz ac hac => osure rfl rfl (hac.says (d := 93) rfl rfl (hd 6 rfl)) (gv (by simp [go_sem, hac.e 98 (hd 11 rfl), hn1b]) rfl),
    fun f s W hW hd hs hz ac hac => opk (c := false) rfl rfl (fun _ => by simp [go_sem, hac.e 93 (hd 6 rfl), hac.e 99 (hd 12 rfl)]) (fun h => absurd h (by decide)),
    fun f s W hW hd hs hz ac hac => opv rfl rfl (by simp [go_sem, hac.e 100 (hd 13 rfl)]) rfl,
    fun f s W hW hd hs hz ac hac => osure rfl rfl (hac.says (d := 101) rfl rfl (hd 14 rfl)) (gv (by simp [go_sem, hac.e 12 k13_12]) rfl),
    fun f s W hW hd hs hz ac hac => osure rfl rfl (hac.says (d := 101) rfl rfl (hd 14 rfl)) (gv (by simp [go_sem, hac.e 102 (hd 15 rfl)]) rfl),
    fun f s W hW hd hs hz ac hac => osure rfl rfl (hac.says (d := 101) rfl rfl (hd 14 rfl)) (gv (by simp [go_sem, hac.e 103 (hd 16 rfl)]) rfl),
    fun f s W hW hd hs hz ac hac => gdo rfl rfl (hac.says (d := 104) rfl rfl (hd 17 rfl)) fun hgd0 => gv (by simp [go_sem, hac.e 8 k13_8]) rfl,
    fun f s W hW hd hs hz ac hac => gdo rfl rfl (hac.says (d := 104) rfl rfl (hd 17 rfl)) fun hgd0 => gv (by simp [go_sem, hac.e 12 k13_12]) rfl,
    fun f s W hW hd hs hz ac hac => gdo rfl rfl (hac.says (d := 104) rfl rfl (hd 17 rfl)) fun hgd0 => gv (by simp [go_sem, hac.e 105 ((hd 18 rfl).1 hgd0), hac.e 106 ((hd 19 rfl).1 hgd0), hab, li]) rfl,
    fun f s W hW hd hs hz ac hac => gdo rfl rfl (hac.says (d := 104) rfl rfl (hd 17 rfl)) fun hgd0 => gv (by simp [go_sem, hac.e 107 ((hd 20 rfl).1 hgd0)]) rfl,
    fun f s W hW hd hs hz ac hac => gdo rfl rfl (hac.says (d := 104) rfl rfl (hd 17 rfl)) fun hgd0 => by have cu := (pp_nth (i := i) (q102'.below hW (Nat.le_refl _)) hab (by omega)).1; exact gv (by simp [go_sem, hac.e 108 ((hd 21 rfl).1 hgd0), cu]) rfl,
    fun f s W hW hd hs hz ac hac => gdo rfl rfl (hac.says (d := 104) rfl rfl (hd 17 rfl)) fun hgd0 => gv (by simp [go_sem, hac.e 8 k13_8]) rfl,
    fun f s W hW hd hs hz ac hac => gdo rfl rfl (hac.says (d := 104) rfl rfl (hd 17 rfl)) fun hgd0 => gv (by simp [go_sem, hac.e 12 k13_12]) rfl,
    fun f s W hW hd hs hz ac hac => gdo rfl rfl (hac.says (d := 104) rfl rfl (hd 17 rfl)) fun hgd0 => gv (by simp [go_sem, hac.e 111 ((hd 24 rfl).1 hgd0), IntWalk.i64_in ((i : Int) - 1) (by omega)]) rfl,
    fun f s W hW hd hs hz ac hac => gdo rfl rfl (hac.says (d := 104) rfl rfl (hd 17 rfl)) fun hgd0 => by have hgp_ := of_decide_eq_true hgd0; have hi1_ : (i : Int) - 1 = ((i - 1 : Nat) : Int) := (by omega); have li1_ := Nat.not_le.2 (show i - 1 < L.length by omega); exact gv (by simp [go_sem, hac.e 110 ((hd 23 rfl).1 hgd0), hac.e 112 ((hd 25 rfl).1 hgd0), hi1_, hab, li1_]) rfl,
    fun f s W hW hd hs hz ac hac => gdo rfl rfl (hac.says (d := 104) rfl rfl (hd 17 rfl)) fun hgd0 => gv (by simp [go_sem, hac.e 113 ((hd 26 rfl).1 hgd0)]) rfl,
    fun f s W hW hd hs hz ac hac => gdo rfl rfl (hac.says (d := 104) rfl rfl (hd 17 rfl)) fun hgd0 => by have cu := (pp_nth (i := (i - 1)) (q102'.below hW (Nat.le_refl _)) hab (by omega)).1; exact gv (by simp [go_sem, hac.e 114 ((hd 27 rfl).1 hgd0), cu]) rfl,
    fun f s W hW hd hs hz ac hac => gdo rfl rfl (hac.says (d := 104) rfl rfl (hd 17 rfl)) fun hgd0 => by have hna_ := hasc i li0 (of_decide_eq_true hgd0); exact gv (by simp [go_sem, hac.e 109 ((hd 22 rfl).1 hgd0), hac.e 115 ((hd 28 rfl).1 hgd0), hna_]) rfl,
    fun f s W hW hd hs hz ac hac => osure rfl rfl (hac.says (d := 101) rfl rfl (hd 14 rfl)) (gk (c := decide (0 < (i : Int))) (fun hpk => by first | (simp [go_sem, hpk, hac.e 104 (hd 17 rfl)]; done) | (have hpk' := hpk; simp at hpk'; simp [go_sem, hpk', hpk, hac.e 104 (hd 17 rfl)])) (fun hpk => by first | (simp [go_sem, hpk, hac.e 104 (hd 17 rfl), hac.e 116 ((hd 29 rfl).1 hpk)]; done) | (have hpk' := hpk; simp at hpk'; simp [go_sem, hpk', hpk, hac.e 104 (hd 17 rfl), hac.e 116 ((hd 29 rfl).1 hpk)]))),
    fun f s W hW hd hs hz ac hac => opk (c := false) rfl rfl (fun _ => by simp [go_sem, hac.e 101 (hd 14 rfl), hac.e 117 (hd 30 rfl)]) (fun h => absurd h (by decide)),
    fun f s W hW hd hs hz ac hac => opv rfl rfl (by simp [go_sem, hac.e 118 (hd 31 rfl)]) rfl,
    fun f s W hW hd hs hz ac hac => osure rfl rfl (hac.says (d := 119) rfl rfl (hd 32 rfl)) (gv (by simp [go_sem, hac.e 8 k13_8]) rfl),
    fun f s W hW hd hs hz ac hac => osure rfl rfl (hac.says (d := 119) rfl rfl (hd 32 rfl)) (gv (by simp [go_sem, hac.e 12 k13_12]) rfl),
    fun f s W hW hd hs hz ac hac => osure rfl rfl (hac.says (d := 119) rfl rfl (hd 32 rfl)) (gv (by simp [go_sem, hac.e 120 (hd 33 rfl), hac.e 121 (hd 34 rfl), hab, li]) rfl),
    fun f s W hW hd hs hz ac hac => osure rfl rfl (hac.says (d := 119) rfl rfl (hd 32 rfl)) (gv (by simp [go_sem, hac.e 122 (hd 35 rfl)]) rfl),
    fun f s W hW hd hs hz ac hac => osure rfl rfl (hac.says (d := 119) rfl rfl (hd 32 rfl)) (by have cu := (pp_nth (i := i) (q102'.below hW (Nat.le_refl _)) hab (by omega)).2; exact gv (by simp [go_sem, hac.e 123 (hd 36 rfl), cu]) rfl),
    fun f s W hW hd hs hz ac hac => osure rfl rfl (hac.says (d := 119) rfl rfl (hd 32 rfl)) (gv (by simp [go_sem, hac.e 6 k13_6]) rfl),
    fun f s W hW hd hs hz ac hac => osure rfl rfl (hac.says (d := 119) rfl rfl (hd 32 rfl)) (gv (by simp [go_sem, hac.e 125 (hd 38 rfl), Joins.cell_of_block (blk_below b13_3 hW) 0]) rfl),
    fun f s W hW hd hs hz ac hac => osure rfl rfl (hac.says (d := 119) rfl rfl (hd 32 rfl)) (gv (by simp [go_sem, hac.e 124 (hd 37 rfl), hac.e 126 (hd 39 rfl), hn2a]) rfl),
    fun f s W hW hd hs hz ac hac => opk (c := false) rfl rfl (fun _ => by simp [go_sem, hac.e 119 (hd 32 rfl), hac.e 127 (hd 40 rfl)]) (fun h => absurd h (by decide)),
    fun f s W hW hd hs hz ac hac => opv rfl rfl (by simp [go_sem, hac.e 128 (hd 41 rfl)]) rfl,
    fun f s W hW hd hs hz ac hac => osure rfl rfl (hac.says (d := 129) rfl rfl (hd 42 rfl)) (gv (by simp [go_sem, hac.e 8 k13_8]) rfl),
    fun f s W hW hd hs hz ac hac => osure rfl rfl (hac.says (d := 129) rfl rfl (hd 42 rfl)) (gv (by simp [go_sem, hac.e 12 k13_12]) rfl),
    fun f s W hW hd hs hz ac hac => osure rfl rfl (hac.says (d := 129) rfl rfl (hd 42 rfl)) (gv (by simp [go_sem, hac.e 130 (hd 43 rfl), hac.e 131 (hd 44 rfl), hab, li]) rfl),
    fun f s W hW hd hs hz ac hac => osure rfl rfl (hac.says (d := 129) rfl rfl (hd 42 rfl)) (gv (by simp [go_sem, hac.e 132 (hd 45 rfl)]) rfl),
    fun f s W hW hd hs hz ac hac => osure rfl rfl (hac.says (d := 129) rfl rfl (hd 42 rfl)) (by have cu := (pp_nth (i := i) (q102'.below hW (Nat.le_refl _)) hab (by omega)).2; exact gv (by simp [go_sem, hac.e 133 (hd 46 rfl), cu]) rfl),
    fun f s W hW hd hs hz ac hac => osure rfl rfl (hac.says (d := 129) rfl rfl (hd 42 rfl)) (gv (by simp [go_sem, hac.e 6 k13_6]) rfl),
    fun f s W hW hd hs hz ac hac => osure rfl rfl (hac.says (d := 129) rfl rfl (hd 42 rfl)) (gv (by simp [go_sem, hac.e 135 (hd 48 rfl), Joins.cell_of_block (blk_below b13_3 hW) 1]) rfl),
    fun f s W hW hd hs hz ac hac => osure rfl rfl (hac.says (d := 129) rfl rfl (hd 42 rfl)) (gv (by simp [go_sem, hac.e 134 (hd 47 rfl), hac.e 136 (hd 49 rfl), hn2b]) rfl),
    fun f s W hW hd hs hz ac hac => opk (c := false) rfl rfl (fun _ => by simp [go_sem, hac.e 129 (hd 42 rfl), hac.e 137 (hd 50 rfl)]) (fun h => absurd h (by decide)), trivial⟩ ?_
    intro f14 s14 W14 hB14
    have fB14 : Below w.heap.size w W14 := below_trans fB13 hB14.below
    have z14 : W13.heap.size ≤ W14.heap.size := hB14.below.size
    have b14_0 := blk_below b13_0 hB14.below
    have b14_1 := blk_below b13_1 hB14.below
    have b14_2 := blk_below b13_2 hB14.below
    have b14_3 := blk_below b13_3 hB14.below
    have b14_4 := blk_below b13_4 hB14.below
    have b14_5 := blk_below b13_5 hB14.below
    have q103' := (q99'.below hB14.below)
    have q104' := (q100'.below hB14.below)
    have q105' := (q101'.below hB14.below)
    have q106' := (q102'.below hB14.below (Nat.le_refl _))
    refine hK16 _ _ ?_
    generalize hg14 : ov [(87, 0), (88, 1), (89, 2), (90, 3), (91, 4), (92, 5), (93, 6), (94, 7), (95, 8), (96, 9), (97, 10), (98, 11), (99, 12), (100, 13), (101, 14), (102, 15), (103, 16), (104, 17), (105, 18), (106, 19), (107, 20), (108, 21), (109, 22), (110, 23), (111, 24), (112, 25), (113, 26), (114, 27), (115, 28), (116, 29), (117, 30), (118, 31), (119, 32), (120, 33), (121, 34), (122, 35), (123, 36), (124, 37), (125, 38), (126, 39), (127, 40), (128, 41), (129, 42), (130, 43), (131, 44), (132, 45), (133, 46), (134, 47), (135, 48), (136, 49), (137, 50), (138, 51)] f14 g13 = g14
    have k14_4 := kt hg14 4 k13_4
    have k14_5 := kt hg14 5 k13_5
    have k14_6 := kt hg14 6 k13_6
    have k14_7 := kt hg14 7 k13_7
    have k14_8 := kt hg14 8 k13_8
    have k14_10 := kt hg14 10 k13_10
    have k14_11 := kt hg14 11 k13_11
    have k14_12 := kt hg14 12 k13_12
    have k14_138 := kt hg14 138 (hB14.is 51)
    refine wp_cond_false ((fr_eval rfl).trans k14_138) ?_
    refine wp_skip ?_
    refine hK15 _ _ ?_
    refine wp_seq_k fun K18 hK18 => ?_
    as_aux_lemma =>
    refine region_do 20 [(140, 0), (141, 1), (142, 2), (143, 3), (144, 4), (145, 5), (146, 6), (147, 7), (148, 8), (149, 9), (150, 10), (151, 11), (152, 12), (153, 13), (154, 14), (139, 15), (155, 16), (156, 17), (13, 18), (14, 19)] [[], [0], [], [], [], [3, 4], [3, 4, 5], [3, 4, 5, 6], [], [], [8, 9], [8, 9, 10], [8, 9, 10, 11], [0, 1, 3, 4, 5, 6, 7, 8, 9, 10, 11, 12], [0, 1, 2, 3, 4, 5, 6, 7, 8, 9, 10, 11, 12, 13], [0, 1, 2, 3, 4, 5, 6, 7, 8, 9, 10, 11, 12, 13, 14], [0, 1, 2, 3, 4, 5, 6, 7, 8, 9, 10, 11, 12, 13, 14, 15], [0, 1, 2, 3, 4, 5, 6, 7, 8, 9, 10, 11, 12, 13, 14, 15], [0, 1, 2, 3, 4, 5, 6, 7, 8, 9, 10, 11, 12, 13, 14, 15, 16], [0, 1, 2, 3, 4, 5, 6, 7, 8, 9, 10, 11, 12, 13, 14, 15, 16, 17, 18]] (rel [is (.agg #[.int .i64 b.tab, .slice (some ⟨g1', 0, none⟩) (b.panels.length) (c4'), .int .i64 b.height, .slice (some ⟨g2', 0, none⟩) (b.top.length) (c5'), .slice (some ⟨g3', 0, none⟩) (b.bottom.length) (c6'), .int .i64 b.slot, .bool b.isOpen]),
      fun v s W => NwBlk (s 1) (b) v W,
      is (.agg #[.int .i64 vi.length.1, .int .i64 vi.length.2, .int .i64 vi.width.1, .int .i64 vi.width.2, .int .i64 vi.height.1, .int .i64 vi.height.2, .int .i64 vi.outer.1, .int .i64 vi.outer.2, .int .i64 vi.inner.1, .int .i64 vi.inner.2, .bool vi.isOpen]),
      is (.slice (a61') (L.length) (c62')),
      is (.int .i64 ((i : Int))),
      is (.pointer (some ⟨bq, oq + i * 2, none⟩)),
      is (.pointer (some ⟨bq, oq + i * 2 + 1, none⟩)),
      is (.int .i64 (((nthP L i).2))),
      is (.slice (a61') (L.length) (c62')),
      is (.int .i64 ((i : Int))),
      is (.pointer (some ⟨bq, oq + i * 2, none⟩)),
      is (.pointer (some ⟨bq, oq + i * 2 + 1, none⟩)),
      is (.int .i64 (((nthP L i).2))),
      is (.agg #[.int .i64 (((nthP L i).2)), .int .i64 (((nthP L i).2))]),
      ab fun v W => ∃ x0, v = .tuple #[x0, .int .i64 0] ∧ IsPp (closeL b vi (((nthP L i).2), ((nthP L i).2))) x0 W,
      ab fun v W => ∃ x0, v = .tuple #[x0, .int .i64 0] ∧ IsPp (closeL b vi (((nthP L i).2), ((nthP L i).2))) x0 W,
      ab fun v W => IsPp (closeL b vi (((nthP L i).2), ((nthP L i).2))) v W,
      is (.int .i64 0),
      ab fun v W => IsPp (closeL b vi (((nthP L i).2), ((nthP L i).2))) v W,
      is (.int .i64 0)]) (by kernel_rfl) (by kernel_rfl) (by kernel_rfl) (by kernel_rfl)
      ⟨is_k, ⟨fun v k W W' hb h => h.below hb, fun v s s' W e h => by have h' : NwBlk (s 1) (b) v W := h; show NwBlk (s' 1) (b) v W; rw [← e 1 (by simp)]; exact h'⟩, is_k, is_k, is_k, is_k, is_k, is_k, is_k, is_k, is_k, is_k, is_k, is_k, ab_k fun v W W' hb ⟨x0, e, h0⟩ => ⟨x0, e, h0.below hb⟩, ab_k fun v W W' hb ⟨x0, e, h0⟩ => ⟨x0, e, h0.below hb⟩, ab_k fun v W W' hb h => h.below hb, is_k, ab_k fun v W W' hb h => h.below hb, is_k, trivial⟩
      ⟨fun f s W hW hd hs hz ac hac => opl rfl rfl rfl (hac.v 5 k14_5) (blk_below b14_2 hW) Tryz.underlying24 rfl (by kernel_rfl) rfl,
    fun f s W hW hd hs hz ac hac => opDo_call (args := #[.agg #[.int .i64 b.tab, .slice (some ⟨g1', 0, none⟩) (b.panels.length) (c4'), .int .i64 b.height, .slice (some ⟨g2', 0, none⟩) (b.top.length) (c5'), .slice (some ⟨g3', 0, none⟩) (b.bottom.length) (c6'), .int .i64 b.slot, .bool b.isOpen]]) rfl rfl (by simp [go_sem, hac.e 140 (hd 0 rfl)]) (own_any _ _ _ _ _ _ b W ((q103'.below hW)).ii ((q104'.below hW)).ii ((q105'.below hW)).ii n1 n2 n3) (fun e W' h => by obtain ⟨v, e1, h1, h2⟩ := h; exact ⟨v, e1, h2, (show NwBlk (upd s 1 W.heap.size 1) (b) v W' from by rw [upd_at]; exact h1)⟩),
    fun f s W hW hd hs hz ac hac => opl rfl rfl rfl (hac.v 7 k14_7) (blk_below b14_4 hW) Tryz.underlying43 rfl (by kernel_rfl) rfl,
    fun f s W hW hd hs hz ac hac => opv rfl rfl (by simp [go_sem, hac.e 8 k14_8]) rfl,
    fun f s W hW hd hs hz ac hac => opv rfl rfl (by simp [go_sem, hac.e 12 k14_12]) rfl,
    fun f s W hW hd hs hz ac hac => opv rfl rfl (by simp [go_sem, hac.e 143 (hd 3 rfl), hac.e 144 (hd 4 rfl), hab, li]) rfl,
    fun f s W hW hd hs hz ac hac => opv rfl rfl (by simp [go_sem, hac.e 145 (hd 5 rfl)]) rfl,
    fun f s W hW hd hs hz ac hac => by have cu := (pp_nth (i := i) (q106'.below hW (Nat.le_refl _)) hab (by omega)).2; exact opv rfl rfl (by simp [go_sem, hac.e 146 (hd 6 rfl), cu]) rfl,
    fun f s W hW hd hs hz ac hac => opv rfl rfl (by simp [go_sem, hac.e 8 k14_8]) rfl,
    fun f s W hW hd hs hz ac hac => opv rfl rfl (by simp [go_sem, hac.e 12 k14_12]) rfl,
    fun f s W hW hd hs hz ac hac => opv rfl rfl (by simp [go_sem, hac.e 148 (hd 8 rfl), hac.e 149 (hd 9 rfl), hab, li]) rfl,
    fun f s W hW hd hs hz ac hac => opv rfl rfl (by simp [go_sem, hac.e 150 (hd 10 rfl)]) rfl,
    fun f s W hW hd hs hz ac hac => by have cu := (pp_nth (i := i) (q106'.below hW (Nat.le_refl _)) hab (by omega)).2; exact opv rfl rfl (by simp [go_sem, hac.e 151 (hd 11 rfl), cu]) rfl,
    fun f s W hW hd hs hz ac hac => opc rfl rfl (by simp [go_sem, hac.e 147 (hd 7 rfl), hac.e 152 (hd 12 rfl)]) (span_any (((nthP L i).2)) (((nthP L i).2)) W),
    fun f s W hW hd hs hz ac hac => by obtain ⟨g107', c110', g108', c111', g109', c112', d1, ⟨q113', q115', q114'⟩, ⟨q116', q118', q117'⟩, ⟨q119', q121', q120'⟩⟩ := (hd 1 rfl); exact opDo_call (args := #[.agg #[.int .i64 b.tab, .slice (some ⟨g107', 0, none⟩) (b.panels.length) (c110'), .int .i64 b.height, .slice (some ⟨g108', 0, none⟩) (b.top.length) (c111'), .slice (some ⟨g109', 0, none⟩) (b.bottom.length) (c112'), .int .i64 b.slot, .bool b.isOpen], .agg #[.int .i64 vi.length.1, .int .i64 vi.length.2, .int .i64 vi.width.1, .int .i64 vi.width.2, .int .i64 vi.height.1, .int .i64 vi.height.2, .int .i64 vi.outer.1, .int .i64 vi.outer.2, .int .i64 vi.inner.1, .int .i64 vi.inner.2, .bool vi.isOpen], .agg #[.int .i64 (((nthP L i).2)), .int .i64 (((nthP L i).2))]]) rfl rfl (by simp [go_sem, hac.e 141 d1, hac.e 142 (hd 2 rfl), hac.e 153 (hd 13 rfl)]) (close_ok vi (((nthP L i).2)) (((nthP L i).2)) W ⟨_, _, _, _, _, _, _, _, _, rfl, q113', q116', q119'⟩ hck hwi (by omega) (by omega) (by omega)) ((fun e W' h => by obtain ⟨x, e1, h1, h2⟩ := h; exact ⟨_, e1, h2, _, rfl, h1⟩)),
    fun f s W hW hd hs hz ac hac => opv (v := (f 14)) rfl rfl (by simp [go_sem, (hac.at' 154 rfl : ac.tmps[154]?.getD undef = f 14)] <;> rfl) (hd 14 rfl),
    fun f s W hW hd hs hz ac hac => by obtain ⟨x15_0, d15, p15_0⟩ := (hd 15 rfl); exact opv (v := x15_0) rfl rfl (by simp [go_sem, hac.e 139 d15]) p15_0,
    fun f s W hW hd hs hz ac hac => by obtain ⟨x15_0, d15, p15_0⟩ := (hd 15 rfl); exact opv rfl rfl (by simp [go_sem, hac.e 139 d15]) rfl,
    fun f s W hW hd hs hz ac hac => opv (v := (f 16)) rfl rfl (by simp [go_sem, (hac.at' 155 rfl : ac.tmps[155]?.getD undef = f 16)] <;> rfl) (hd 16 rfl),
    fun f s W hW hd hs hz ac hac => opv rfl rfl (by simp [go_sem, hac.e 156 (hd 17 rfl)]) rfl, trivial⟩ ?_
    intro f15 s15 W15 hB15
    have fB15 : Below w.heap.size w W15 := below_trans fB14 hB15.below
    have z15 : W14.heap.size ≤ W15.heap.size := hB15.below.size
    have b15_0 := blk_below b14_0 hB15.below
    have b15_1 := blk_below b14_1 hB15.below
    have b15_2 := blk_below b14_2 hB15.below
    have b15_3 := blk_below b14_3 hB15.below
    have b15_4 := blk_below b14_4 hB15.below
    have b15_5 := blk_below b14_5 hB15.below
    have q125' := (q103'.below hB15.below)
    have q126' := (q104'.below hB15.below)
    have q127' := (q105'.below hB15.below)
    have q128' := (q106'.below hB15.below (Nat.le_refl _))
    obtain ⟨a129', c130', r15_18, q131'⟩ := hB15.is 18
    have lim132' := Pp.lim q131'
    refine hK18 _ _ ?_
    generalize hg15 : ov [(140, 0), (141, 1), (142, 2), (143, 3), (144, 4), (145, 5), (146, 6), (147, 7), (148, 8), (149, 9), (150, 10), (151, 11), (152, 12), (153, 13), (154, 14), (139, 15), (155, 16), (156, 17), (13, 18), (14, 19)] f15 g14 = g15
    have k15_4 := kt hg15 4 k14_4
    have k15_5 := kt hg15 5 k14_5
    have k15_6 := kt hg15 6 k14_6
    have k15_7 := kt hg15 7 k14_7
    have k15_8 := kt hg15 8 k14_8
    have k15_10 := kt hg15 10 k14_10
    have k15_11 := kt hg15 11 k14_11
    have k15_12 := kt hg15 12 k14_12
    have k15_13 := kt hg15 13 r15_18
    have k15_14 := kt hg15 14 (hB15.is 19)
    refine wp_seq_k fun K19 hK19 => ?_
    refine wp_seq_k fun K20 hK20 => ?_
    as_aux_lemma =>
    refine region_do 12 [(157, 0), (158, 1), (159, 2), (160, 3), (161, 4), (162, 5), (163, 6), (164, 7), (165, 8), (166, 9), (167, 10), (168, 11)] [[], [0], [0, 1], [0, 1, 2], [0, 1, 2], [0, 1, 2], [0, 1, 2, 4, 5], [0, 1, 2, 4, 5, 6], [0, 1, 2, 4, 5, 6, 7], [0, 1, 2, 3, 4, 5, 6, 7, 8], [0, 1, 2, 3, 4, 5, 6, 7, 8, 9], [0, 1, 2, 3, 4, 5, 6, 7, 8, 9, 10]] (rel [is (.int .i64 0),
      is (.bool false),
      is (.bool false),
      is (.slice (a129') ((closeL b vi (((nthP L i).2), ((nthP L i).2))).length) (c130')),
      is (.slice (a61') (L.length) (c62')),
      is (.int .i64 ((i : Int))),
      is (.pointer (some ⟨bq, oq + i * 2, none⟩)),
      is (.pointer (some ⟨bq, oq + i * 2, none⟩)),
      is (.int .i64 (((nthP L i).1))),
      is (.bool true),
      is (.bool false),
      is (.bool false)]) (by kernel_rfl) (by kernel_rfl) (by kernel_rfl) (by kernel_rfl)
      ⟨is_k, is_k, is_k, is_k, is_k, is_k, is_k, is_k, is_k, is_k, is_k, is_k, trivial⟩
      ⟨fun f s W hW hd hs hz ac hac => opv rfl rfl (by simp [go_sem, hac.e 14 k15_14]) rfl,
    fun f s W hW hd hs hz ac hac => opv rfl rfl (by simp [go_sem, hac.e 157 (hd 0 rfl)]) rfl,
    fun f s W hW hd hs hz ac hac => opv rfl rfl (by simp [go_sem, hac.e 158 (hd 1 rfl)]) rfl,
    fun f s W hW hd hs hz ac hac => osure rfl rfl (hac.says (d := 159) rfl rfl (hd 2 rfl)) (gv (by simp [go_sem, hac.e 13 k15_13]) rfl),
    fun f s W hW hd hs hz ac hac => osure rfl rfl (hac.says (d := 159) rfl rfl (hd 2 rfl)) (gv (by simp [go_sem, hac.e 8 k15_8]) rfl),
    fun f s W hW hd hs hz ac hac => osure rfl rfl (hac.says (d := 159) rfl rfl (hd 2 rfl)) (gv (by simp [go_sem, hac.e 12 k15_12]) rfl),
    fun f s W hW hd hs hz ac hac => osure rfl rfl (hac.says (d := 159) rfl rfl (hd 2 rfl)) (gv (by simp [go_sem, hac.e 161 (hd 4 rfl), hac.e 162 (hd 5 rfl), hab, li]) rfl),
    fun f s W hW hd hs hz ac hac => osure rfl rfl (hac.says (d := 159) rfl rfl (hd 2 rfl)) (gv (by simp [go_sem, hac.e 163 (hd 6 rfl)]) rfl),
    fun f s W hW hd hs hz ac hac => osure rfl rfl (hac.says (d := 159) rfl rfl (hd 2 rfl)) (by have cu := (pp_nth (i := i) (q128'.below hW (Nat.le_refl _)) hab (by omega)).1; exact gv (by simp [go_sem, hac.e 164 (hd 7 rfl), cu]) rfl),
    fun f s W hW hd hs hz ac hac => osure rfl rfl (hac.says (d := 159) rfl rfl (hd 2 rfl)) (gc (by simp [go_sem, hac.e 160 (hd 3 rfl), hac.e 165 (hd 8 rfl)]) (named_is W ((q131'.below hW (Nat.le_refl _))) hn3)),
    fun f s W hW hd hs hz ac hac => osure rfl rfl (hac.says (d := 159) rfl rfl (hd 2 rfl)) (gv (by simp [go_sem, hac.e 166 (hd 9 rfl)]) rfl),
    fun f s W hW hd hs hz ac hac => opk (c := false) rfl rfl (fun _ => by simp [go_sem, hac.e 159 (hd 2 rfl), hac.e 167 (hd 10 rfl)]) (fun h => absurd h (by decide)), trivial⟩ ?_
    intro f16 s16 W16 hB16
    have fB16 : Below w.heap.size w W16 := below_trans fB15 hB16.below
    have z16 : W15.heap.size ≤ W16.heap.size := hB16.below.size
    have b16_0 := blk_below b15_0 hB16.below
    have b16_1 := blk_below b15_1 hB16.below
    have b16_2 := blk_below b15_2 hB16.below
    have b16_3 := blk_below b15_3 hB16.below
    have b16_4 := blk_below b15_4 hB16.below
    have b16_5 := blk_below b15_5 hB16.below
    have q133' := (q125'.below hB16.below)
    have q134' := (q126'.below hB16.below)
    have q135' := (q127'.below hB16.below)
    have q136' := (q128'.below hB16.below (Nat.le_refl _))
    have q137' := (q131'.below hB16.below (Nat.le_refl _))
    refine hK20 _ _ ?_
    generalize hg16 : ov [(157, 0), (158, 1), (159, 2), (160, 3), (161, 4), (162, 5), (163, 6), (164, 7), (165, 8), (166, 9), (167, 10), (168, 11)] f16 g15 = g16
    have k16_4 := kt hg16 4 k15_4
    have k16_5 := kt hg16 5 k15_5
    have k16_6 := kt hg16 6 k15_6
    have k16_7 := kt hg16 7 k15_7
    have k16_8 := kt hg16 8 k15_8
    have k16_10 := kt hg16 10 k15_10
    have k16_11 := kt hg16 11 k15_11
    have k16_12 := kt hg16 12 k15_12
    have k16_168 := kt hg16 168 (hB16.is 11)
    refine wp_cond_false ((fr_eval rfl).trans k16_168) ?_
    refine wp_skip ?_
    refine hK19 _ _ ?_
    refine wp_seq_k fun K22 hK22 => ?_
    as_aux_lemma =>
    refine region_do 8 [(169, 0), (170, 1), (171, 2), (172, 3), (173, 4), (174, 5), (175, 6), (176, 7)] [[], [], [0, 1], [0, 1, 2], [0, 1, 2, 3], [], [5], [0, 1, 2, 3, 4, 5, 6]] (rel [is (.slice (a61') (L.length) (c62')),
      is (.int .i64 ((i : Int))),
      is (.pointer (some ⟨bq, oq + i * 2, none⟩)),
      is (.pointer (some ⟨bq, oq + i * 2 + 1, none⟩)),
      is (.int .i64 (((nthP L i).2))),
      is (.pointer (some ⟨bk2, 0, none⟩)),
      is (.int .i64 lo),
      is (.bool (decide (lo < ((nthP L i).2))))]) (by kernel_rfl) (by kernel_rfl) (by kernel_rfl) (by kernel_rfl)
      ⟨is_k, is_k, is_k, is_k, is_k, is_k, is_k, is_k, trivial⟩
      ⟨fun f s W hW hd hs hz ac hac => opv rfl rfl (by simp [go_sem, hac.e 8 k16_8]) rfl,
    fun f s W hW hd hs hz ac hac => opv rfl rfl (by simp [go_sem, hac.e 12 k16_12]) rfl,
    fun f s W hW hd hs hz ac hac => opv rfl rfl (by simp [go_sem, hac.e 169 (hd 0 rfl), hac.e 170 (hd 1 rfl), hab, li]) rfl,
    fun f s W hW hd hs hz ac hac => opv rfl rfl (by simp [go_sem, hac.e 171 (hd 2 rfl)]) rfl,
    fun f s W hW hd hs hz ac hac => by have cu := (pp_nth (i := i) (q136'.below hW (Nat.le_refl _)) hab (by omega)).2; exact opv rfl rfl (by simp [go_sem, hac.e 172 (hd 3 rfl), cu]) rfl,
    fun f s W hW hd hs hz ac hac => opv rfl rfl (by simp [go_sem, hac.e 6 k16_6]) rfl,
    fun f s W hW hd hs hz ac hac => opv rfl rfl (by simp [go_sem, hac.e 174 (hd 5 rfl), Joins.cell_of_block (blk_below b16_3 hW) 0]) rfl,
    fun f s W hW hd hs hz ac hac => opv rfl rfl (by simp [go_sem, hac.e 173 (hd 4 rfl), hac.e 175 (hd 6 rfl)]) rfl, trivial⟩ ?_
    intro f17 s17 W17 hB17
    have fB17 : Below w.heap.size w W17 := below_trans fB16 hB17.below
    have z17 : W16.heap.size ≤ W17.heap.size := hB17.below.size
    have b17_0 := blk_below b16_0 hB17.below
    have b17_1 := blk_below b16_1 hB17.below
    have b17_2 := blk_below b16_2 hB17.below
    have b17_3 := blk_below b16_3 hB17.below
    have b17_4 := blk_below b16_4 hB17.below
    have b17_5 := blk_below b16_5 hB17.below
    have q138' := (q133'.below hB17.below)
    have q139' := (q134'.below hB17.below)
    have q140' := (q135'.below hB17.below)
    have q141' := (q136'.below hB17.below (Nat.le_refl _))
    have q142' := (q137'.below hB17.below (Nat.le_refl _))
    refine hK22 _ _ ?_
    generalize hg17 : ov [(169, 0), (170, 1), (171, 2), (172, 3), (173, 4), (174, 5), (175, 6), (176, 7)] f17 g16 = g17
    have k17_4 := kt hg17 4 k16_4
    have k17_5 := kt hg17 5 k16_5
    have k17_6 := kt hg17 6 k16_6
    have k17_7 := kt hg17 7 k16_7
    have k17_8 := kt hg17 8 k16_8
    have k17_10 := kt hg17 10 k16_10
    have k17_11 := kt hg17 11 k16_11
    have k17_12 := kt hg17 12 k16_12
    have k17_176 := kt hg17 176 (hB17.is 7)
    refine wp_cond_split (t := decide (lo < ((nthP L i).2))) ((fr_eval rfl).trans k17_176) (fun hc23 => ?_) (fun hc23 => ?_)
    ·
      have hc23' := hc23; try simp only [decide_eq_true_eq, decide_eq_false_iff_not, Bool.and_eq_true, Bool.or_eq_true, Bool.and_eq_false_iff, Bool.or_eq_false_iff, beq_iff_eq, bne_iff_ne, Bool.not_eq_true', Bool.not_eq_false', ne_eq, bne_eq_false_iff_eq, beq_eq_false_iff_ne] at hc23'
      have hlt_ := of_decide_eq_true hc23
      refine wp_seq_k fun K24 hK24 => ?_
      as_aux_lemma =>
      refine region_do 18 [(178, 0), (179, 1), (180, 2), (181, 3), (182, 4), (183, 5), (184, 6), (185, 7), (186, 8), (187, 9), (188, 10), (189, 11), (190, 12), (177, 13), (191, 14), (192, 15), (15, 16), (16, 17)] [[], [0], [], [], [3], [], [], [5, 6], [5, 6, 7], [5, 6, 7, 8], [5, 6, 7, 8, 9], [0, 1, 3, 4, 5, 6, 7, 8, 9, 10], [0, 1, 2, 3, 4, 5, 6, 7, 8, 9, 10, 11], [0, 1, 2, 3, 4, 5, 6, 7, 8, 9, 10, 11, 12], [0, 1, 2, 3, 4, 5, 6, 7, 8, 9, 10, 11, 12, 13], [0, 1, 2, 3, 4, 5, 6, 7, 8, 9, 10, 11, 12, 13], [0, 1, 2, 3, 4, 5, 6, 7, 8, 9, 10, 11, 12, 13, 14], [0, 1, 2, 3, 4, 5, 6, 7, 8, 9, 10, 11, 12, 13, 14, 15, 16]] (rel [is (.agg #[.int .i64 b.tab, .slice (some ⟨g1', 0, none⟩) (b.panels.length) (c4'), .int .i64 b.height, .slice (some ⟨g2', 0, none⟩) (b.top.length) (c5'), .slice (some ⟨g3', 0, none⟩) (b.bottom.length) (c6'), .int .i64 b.slot, .bool b.isOpen]),
      fun v s W => NwBlk (s 1) (b) v W,
      is (.agg #[.int .i64 vi.length.1, .int .i64 vi.length.2, .int .i64 vi.width.1, .int .i64 vi.width.2, .int .i64 vi.height.1, .int .i64 vi.height.2, .int .i64 vi.outer.1, .int .i64 vi.outer.2, .int .i64 vi.inner.1, .int .i64 vi.inner.2, .bool vi.isOpen]),
      is (.pointer (some ⟨bk2, 0, none⟩)),
      is (.int .i64 lo),
      is (.slice (a61') (L.length) (c62')),
      is (.int .i64 ((i : Int))),
      is (.pointer (some ⟨bq, oq + i * 2, none⟩)),
      is (.pointer (some ⟨bq, oq + i * 2 + 1, none⟩)),
      is (.int .i64 (((nthP L i).2))),
      is (.int .i64 (((nthP L i).2) - 1)),
      is (.agg #[.int .i64 lo, .int .i64 (((nthP L i).2) - 1)]),
      ab fun v W => ∃ x0, v = .tuple #[x0, .int .i64 0] ∧ IsPp (closeL b vi (lo, ((nthP L i).2) - 1)) x0 W,
      ab fun v W => ∃ x0, v = .tuple #[x0, .int .i64 0] ∧ IsPp (closeL b vi (lo, ((nthP L i).2) - 1)) x0 W,
      ab fun v W => IsPp (closeL b vi (lo, ((nthP L i).2) - 1)) v W,
      is (.int .i64 0),
      ab fun v W => IsPp (closeL b vi (lo, ((nthP L i).2) - 1)) v W,
      is (.int .i64 0)]) (by kernel_rfl) (by kernel_rfl) (by kernel_rfl) (by kernel_rfl)
        ⟨is_k, ⟨fun v k W W' hb h => h.below hb, fun v s s' W e h => by have h' : NwBlk (s 1) (b) v W := h; show NwBlk (s' 1) (b) v W; rw [← e 1 (by simp)]; exact h'⟩, is_k, is_k, is_k, is_k, is_k, is_k, is_k, is_k, is_k, is_k, ab_k fun v W W' hb ⟨x0, e, h0⟩ => ⟨x0, e, h0.below hb⟩, ab_k fun v W W' hb ⟨x0, e, h0⟩ => ⟨x0, e, h0.below hb⟩, ab_k fun v W W' hb h => h.below hb, is_k, ab_k fun v W W' hb h => h.below hb, is_k, trivial⟩
        ⟨fun f s W hW hd hs hz ac hac => opl rfl rfl rfl (hac.v 5 k17_5) (blk_below b17_2 hW) Tryz.underlying24 rfl (by kernel_rfl) rfl,
    fun f s W hW hd hs hz ac hac => opDo_call (args := #[.agg #[.int .i64 b.tab, .slice (some ⟨g1', 0, none⟩) (b.panels.length) (c4'), .int .i64 b.height, .slice (some ⟨g2', 0, none⟩) (b.top.length) (c5'), .slice (some ⟨g3', 0, none⟩) (b.bottom.length) (c6'), .int .i64 b.slot, .bool b.isOpen]]) rfl rfl (by simp [go_sem, hac.e 178 (hd 0 rfl)]) (own_any _ _ _ _ _ _ b W ((q138'.below hW)).ii ((q139'.below hW)).ii ((q140'.below hW)).ii n1 n2 n3) (fun e W' h => by obtain ⟨v, e1, h1, h2⟩ := h; exact ⟨v, e1, h2, (show NwBlk (upd s 1 W.heap.size 1) (b) v W' from by rw [upd_at]; exact h1)⟩),
    fun f s W hW hd hs hz ac hac => opl rfl rfl rfl (hac.v 7 k17_7) (blk_below b17_4 hW) Tryz.underlying43 rfl (by kernel_rfl) rfl,
    fun f s W hW hd hs hz ac hac => opv rfl rfl (by simp [go_sem, hac.e 6 k17_6]) rfl,
    fun f s W hW hd hs hz ac hac => opv rfl rfl (by simp [go_sem, hac.e 181 (hd 3 rfl), Joins.cell_of_block (blk_below b17_3 hW) 0]) rfl,
    fun f s W hW hd hs hz ac hac => opv rfl rfl (by simp [go_sem, hac.e 8 k17_8]) rfl,
    fun f s W hW hd hs hz ac hac => opv rfl rfl (by simp [go_sem, hac.e 12 k17_12]) rfl,
    fun f s W hW hd hs hz ac hac => opv rfl rfl (by simp [go_sem, hac.e 183 (hd 5 rfl), hac.e 184 (hd 6 rfl), hab, li]) rfl,
    fun f s W hW hd hs hz ac hac => opv rfl rfl (by simp [go_sem, hac.e 185 (hd 7 rfl)]) rfl,
    fun f s W hW hd hs hz ac hac => by have cu := (pp_nth (i := i) (q141'.below hW (Nat.le_refl _)) hab (by omega)).2; exact opv rfl rfl (by simp [go_sem, hac.e 186 (hd 8 rfl), cu]) rfl,
    fun f s W hW hd hs hz ac hac => opv rfl rfl (by simp [go_sem, hac.e 187 (hd 9 rfl), IntWalk.i64_in (((nthP L i).2) - 1) (by omega)]) rfl,
    fun f s W hW hd hs hz ac hac => opc rfl rfl (by simp [go_sem, hac.e 182 (hd 4 rfl), hac.e 188 (hd 10 rfl)]) (span_any (lo) (((nthP L i).2) - 1) W),
    fun f s W hW hd hs hz ac hac => by obtain ⟨g143', c146', g144', c147', g145', c148', d1, ⟨q149', q151', q150'⟩, ⟨q152', q154', q153'⟩, ⟨q155', q157', q156'⟩⟩ := (hd 1 rfl); exact opDo_call (args := #[.agg #[.int .i64 b.tab, .slice (some ⟨g143', 0, none⟩) (b.panels.length) (c146'), .int .i64 b.height, .slice (some ⟨g144', 0, none⟩) (b.top.length) (c147'), .slice (some ⟨g145', 0, none⟩) (b.bottom.length) (c148'), .int .i64 b.slot, .bool b.isOpen], .agg #[.int .i64 vi.length.1, .int .i64 vi.length.2, .int .i64 vi.width.1, .int .i64 vi.width.2, .int .i64 vi.height.1, .int .i64 vi.height.2, .int .i64 vi.outer.1, .int .i64 vi.outer.2, .int .i64 vi.inner.1, .int .i64 vi.inner.2, .bool vi.isOpen], .agg #[.int .i64 lo, .int .i64 (((nthP L i).2) - 1)]]) rfl rfl (by simp [go_sem, hac.e 179 d1, hac.e 180 (hd 2 rfl), hac.e 189 (hd 11 rfl)]) (close_ok vi (lo) (((nthP L i).2) - 1) W ⟨_, _, _, _, _, _, _, _, _, rfl, q149', q152', q155'⟩ hck hwi (by omega) (by omega) (by omega)) ((fun e W' h => by obtain ⟨x, e1, h1, h2⟩ := h; exact ⟨_, e1, h2, _, rfl, h1⟩)),
    fun f s W hW hd hs hz ac hac => opv (v := (f 12)) rfl rfl (by simp [go_sem, (hac.at' 190 rfl : ac.tmps[190]?.getD undef = f 12)] <;> rfl) (hd 12 rfl),
    fun f s W hW hd hs hz ac hac => by obtain ⟨x13_0, d13, p13_0⟩ := (hd 13 rfl); exact opv (v := x13_0) rfl rfl (by simp [go_sem, hac.e 177 d13]) p13_0,
    fun f s W hW hd hs hz ac hac => by obtain ⟨x13_0, d13, p13_0⟩ := (hd 13 rfl); exact opv rfl rfl (by simp [go_sem, hac.e 177 d13]) rfl,
    fun f s W hW hd hs hz ac hac => opv (v := (f 14)) rfl rfl (by simp [go_sem, (hac.at' 191 rfl : ac.tmps[191]?.getD undef = f 14)] <;> rfl) (hd 14 rfl),
    fun f s W hW hd hs hz ac hac => opv rfl rfl (by simp [go_sem, hac.e 192 (hd 15 rfl)]) rfl, trivial⟩ ?_
      intro f18 s18 W18 hB18
      have fB18 : Below w.heap.size w W18 := below_trans fB17 hB18.below
      have z18 : W17.heap.size ≤ W18.heap.size := hB18.below.size
      have b18_0 := blk_below b17_0 hB18.below
      have b18_1 := blk_below b17_1 hB18.below
      have b18_2 := blk_below b17_2 hB18.below
      have b18_3 := blk_below b17_3 hB18.below
      have b18_4 := blk_below b17_4 hB18.below
      have b18_5 := blk_below b17_5 hB18.below
      have q161' := (q138'.below hB18.below)
      have q162' := (q139'.below hB18.below)
      have q163' := (q140'.below hB18.below)
      have q164' := (q141'.below hB18.below (Nat.le_refl _))
      have q165' := (q142'.below hB18.below (Nat.le_refl _))
      obtain ⟨a166', c167', r18_16, q168'⟩ := hB18.is 16
      have lim169' := Pp.lim q168'
      refine hK24 _ _ ?_
      generalize hg18 : ov [(178, 0), (179, 1), (180, 2), (181, 3), (182, 4), (183, 5), (184, 6), (185, 7), (186, 8), (187, 9), (188, 10), (189, 11), (190, 12), (177, 13), (191, 14), (192, 15), (15, 16), (16, 17)] f18 g17 = g18
      have k18_4 := kt hg18 4 k17_4
      have k18_5 := kt hg18 5 k17_5
      have k18_6 := kt hg18 6 k17_6
      have k18_7 := kt hg18 7 k17_7
      have k18_8 := kt hg18 8 k17_8
      have k18_10 := kt hg18 10 k17_10
      have k18_11 := kt hg18 11 k17_11
      have k18_12 := kt hg18 12 k17_12
      have k18_15 := kt hg18 15 r18_16
      have k18_16 := kt hg18 16 (hB18.is 17)
      refine wp_seq_k fun K25 hK25 => ?_
      as_aux_lemma =>
      refine region_do 11 [(193, 0), (194, 1), (195, 2), (196, 3), (197, 4), (198, 5), (199, 6), (200, 7), (201, 8), (202, 9), (203, 10)] [[], [0], [0, 1], [0, 1, 2], [0, 1, 2], [0, 1, 2], [0, 1, 2, 4, 5], [0, 1, 2, 4, 5, 6], [0, 1, 2, 4, 5, 6, 7], [0, 1, 2, 3, 4, 5, 6, 7, 8], [0, 1, 2, 3, 4, 5, 6, 7, 8, 9]] (rel [is (.int .i64 0),
      is (.bool false),
      is (.bool false),
      is (.slice (a166') ((closeL b vi (lo, ((nthP L i).2) - 1)).length) (c167')),
      is (.slice (a61') (L.length) (c62')),
      is (.int .i64 ((i : Int))),
      is (.pointer (some ⟨bq, oq + i * 2, none⟩)),
      is (.pointer (some ⟨bq, oq + i * 2, none⟩)),
      is (.int .i64 (((nthP L i).1))),
      is (.bool false),
      is (.bool false)]) (by kernel_rfl) (by kernel_rfl) (by kernel_rfl) (by kernel_rfl)
        ⟨is_k, is_k, is_k, is_k, is_k, is_k, is_k, is_k, is_k, is_k, is_k, trivial⟩
        ⟨fun f s W hW hd hs hz ac hac => opv rfl rfl (by simp [go_sem, hac.e 16 k18_16]) rfl,
    fun f s W hW hd hs hz ac hac => opv rfl rfl (by simp [go_sem, hac.e 193 (hd 0 rfl)]) rfl,
    fun f s W hW hd hs hz ac hac => opv rfl rfl (by simp [go_sem, hac.e 194 (hd 1 rfl)]) rfl,
    fun f s W hW hd hs hz ac hac => osure rfl rfl (hac.says (d := 195) rfl rfl (hd 2 rfl)) (gv (by simp [go_sem, hac.e 15 k18_15]) rfl),
    fun f s W hW hd hs hz ac hac => osure rfl rfl (hac.says (d := 195) rfl rfl (hd 2 rfl)) (gv (by simp [go_sem, hac.e 8 k18_8]) rfl),
    fun f s W hW hd hs hz ac hac => osure rfl rfl (hac.says (d := 195) rfl rfl (hd 2 rfl)) (gv (by simp [go_sem, hac.e 12 k18_12]) rfl),
    fun f s W hW hd hs hz ac hac => osure rfl rfl (hac.says (d := 195) rfl rfl (hd 2 rfl)) (gv (by simp [go_sem, hac.e 197 (hd 4 rfl), hac.e 198 (hd 5 rfl), hab, li]) rfl),
    fun f s W hW hd hs hz ac hac => osure rfl rfl (hac.says (d := 195) rfl rfl (hd 2 rfl)) (gv (by simp [go_sem, hac.e 199 (hd 6 rfl)]) rfl),
    fun f s W hW hd hs hz ac hac => osure rfl rfl (hac.says (d := 195) rfl rfl (hd 2 rfl)) (by have cu := (pp_nth (i := i) (q164'.below hW (Nat.le_refl _)) hab (by omega)).1; exact gv (by simp [go_sem, hac.e 200 (hd 7 rfl), cu]) rfl),
    fun f s W hW hd hs hz ac hac => osure rfl rfl (hac.says (d := 195) rfl rfl (hd 2 rfl)) (gc (by simp [go_sem, hac.e 196 (hd 3 rfl), hac.e 201 (hd 8 rfl)]) (named_is W ((q168'.below hW (Nat.le_refl _))) (hn4 hlt_))),
    fun f s W hW hd hs hz ac hac => opk (c := false) rfl rfl (fun _ => by simp [go_sem, hac.e 195 (hd 2 rfl), hac.e 202 (hd 9 rfl)]) (fun h => absurd h (by decide)), trivial⟩ ?_
      intro f19 s19 W19 hB19
      have fB19 : Below w.heap.size w W19 := below_trans fB18 hB19.below
      have z19 : W18.heap.size ≤ W19.heap.size := hB19.below.size
      have b19_0 := blk_below b18_0 hB19.below
      have b19_1 := blk_below b18_1 hB19.below
      have b19_2 := blk_below b18_2 hB19.below
      have b19_3 := blk_below b18_3 hB19.below
      have b19_4 := blk_below b18_4 hB19.below
      have b19_5 := blk_below b18_5 hB19.below
      have q170' := (q161'.below hB19.below)
      have q171' := (q162'.below hB19.below)
      have q172' := (q163'.below hB19.below)
      have q173' := (q164'.below hB19.below (Nat.le_refl _))
      have q174' := (q165'.below hB19.below (Nat.le_refl _))
      have q175' := (q168'.below hB19.below (Nat.le_refl _))
      refine hK25 _ _ ?_
      generalize hg19 : ov [(193, 0), (194, 1), (195, 2), (196, 3), (197, 4), (198, 5), (199, 6), (200, 7), (201, 8), (202, 9), (203, 10)] f19 g18 = g19
      have k19_4 := kt hg19 4 k18_4
      have k19_5 := kt hg19 5 k18_5
      have k19_6 := kt hg19 6 k18_6
      have k19_7 := kt hg19 7 k18_7
      have k19_8 := kt hg19 8 k18_8
      have k19_10 := kt hg19 10 k18_10
      have k19_11 := kt hg19 11 k18_11
      have k19_12 := kt hg19 12 k18_12
      have k19_203 := kt hg19 203 (hB19.is 10)
      refine wp_cond_false ((fr_eval rfl).trans k19_203) ?_
      refine wp_skip ?_
      refine inBlock_normal ?_
      refine hK14 _ _ ?_
      as_aux_lemma =>
      refine region_do 3 [(85, 0), (86, 1), (12, 2)] [[], [0], [0, 1]] (rel [is (.int .i64 ((i : Int))),
      is (.int .i64 ((i : Int) + 1)),
      is (.int .i64 ((i : Int) + 1))]) (by kernel_rfl) (by kernel_rfl) (by kernel_rfl) (by kernel_rfl)
        ⟨is_k, is_k, is_k, trivial⟩
        ⟨fun f s W hW hd hs hz ac hac => opv rfl rfl (by simp [go_sem, hac.e 12 ((hz 2 12 rfl rfl).trans k19_12)]) rfl,
    fun f s W hW hd hs hz ac hac => opv rfl rfl (by simp [go_sem, hac.e 85 (hd 0 rfl), IntWalk.i64_in ((i : Int) + 1) (by omega)]) rfl,
    fun f s W hW hd hs hz ac hac => opv rfl rfl (by simp [go_sem, hac.e 86 (hd 1 rfl)]) rfl, trivial⟩ ?_
      intro f20 s20 W20 hB20
      have fB20 : Below w.heap.size w W20 := below_trans fB19 hB20.below
      have z20 : W19.heap.size ≤ W20.heap.size := hB20.below.size
      have b20_0 := blk_below b19_0 hB20.below
      have b20_1 := blk_below b19_1 hB20.below
      have b20_2 := blk_below b19_2 hB20.below
      have b20_3 := blk_below b19_3 hB20.below
      have b20_4 := blk_below b19_4 hB20.below
      have b20_5 := blk_below b19_5 hB20.below
      have q176' := (q170'.below hB20.below)
      have q177' := (q171'.below hB20.below)
      have q178' := (q172'.below hB20.below)
      have q179' := (q173'.below hB20.below (Nat.le_refl _))
      have q180' := (q174'.below hB20.below (Nat.le_refl _))
      have q181' := (q175'.below hB20.below (Nat.le_refl _))
      refine wpOps_end ?_
      generalize hg20 : ov [(85, 0), (86, 1), (12, 2)] f20 g19 = g20
      have k20_4 := kt hg20 4 k19_4
      have k20_5 := kt hg20 5 k19_5
      have k20_6 := kt hg20 6 k19_6
      have k20_7 := kt hg20 7 k19_7
      have k20_8 := kt hg20 8 k19_8
      have k20_10 := kt hg20 10 k19_10
      have k20_11 := kt hg20 11 k19_11
      have k20_12 := kt hg20 12 (hB20.is 2)
      refine then_normal ?_
      exact ⟨_, by omega, g20, rfl, i + 1, rfl, k20_4, k20_5, k20_6, k20_7, k20_8, k20_10, k20_11, k20_12.trans (by go_num), fB20, (by omega), b20_0, b20_1, b20_2, b20_3, b20_4, b20_5, q176', q177', q178', q179', (by omega)⟩
    ·
      have hc23' := hc23; try simp only [decide_eq_true_eq, decide_eq_false_iff_not, Bool.and_eq_true, Bool.or_eq_true, Bool.and_eq_false_iff, Bool.or_eq_false_iff, beq_iff_eq, bne_iff_ne, Bool.not_eq_true', Bool.not_eq_false', ne_eq, bne_eq_false_iff_eq, beq_eq_false_iff_ne] at hc23'
      refine wp_skip ?_
      refine inBlock_normal ?_
      refine hK14 _ _ ?_
      as_aux_lemma =>
      refine region_do 3 [(85, 0), (86, 1), (12, 2)] [[], [0], [0, 1]] (rel [is (.int .i64 ((i : Int))),
      is (.int .i64 ((i : Int) + 1)),
      is (.int .i64 ((i : Int) + 1))]) (by kernel_rfl) (by kernel_rfl) (by kernel_rfl) (by kernel_rfl)
        ⟨is_k, is_k, is_k, trivial⟩
        ⟨fun f s W hW hd hs hz ac hac => opv rfl rfl (by simp [go_sem, hac.e 12 ((hz 2 12 rfl rfl).trans k17_12)]) rfl,
    fun f s W hW hd hs hz ac hac => opv rfl rfl (by simp [go_sem, hac.e 85 (hd 0 rfl), IntWalk.i64_in ((i : Int) + 1) (by omega)]) rfl,
    fun f s W hW hd hs hz ac hac => opv rfl rfl (by simp [go_sem, hac.e 86 (hd 1 rfl)]) rfl, trivial⟩ ?_
      intro f21 s21 W21 hB21
      have fB21 : Below w.heap.size w W21 := below_trans fB17 hB21.below
      have z21 : W17.heap.size ≤ W21.heap.size := hB21.below.size
      have b21_0 := blk_below b17_0 hB21.below
      have b21_1 := blk_below b17_1 hB21.below
      have b21_2 := blk_below b17_2 hB21.below
      have b21_3 := blk_below b17_3 hB21.below
      have b21_4 := blk_below b17_4 hB21.below
      have b21_5 := blk_below b17_5 hB21.below
      have q182' := (q138'.below hB21.below)
      have q183' := (q139'.below hB21.below)
      have q184' := (q140'.below hB21.below)
      have q185' := (q141'.below hB21.below (Nat.le_refl _))
      have q186' := (q142'.below hB21.below (Nat.le_refl _))
      refine wpOps_end ?_
      generalize hg21 : ov [(85, 0), (86, 1), (12, 2)] f21 g17 = g21
      have k21_4 := kt hg21 4 k17_4
      have k21_5 := kt hg21 5 k17_5
      have k21_6 := kt hg21 6 k17_6
      have k21_7 := kt hg21 7 k17_7
      have k21_8 := kt hg21 8 k17_8
      have k21_10 := kt hg21 10 k17_10
      have k21_11 := kt hg21 11 k17_11
      have k21_12 := kt hg21 12 (hB21.is 2)
      refine then_normal ?_
      exact ⟨_, by omega, g21, rfl, i + 1, rfl, k21_4, k21_5, k21_6, k21_7, k21_8, k21_10, k21_11, k21_12.trans (by go_num), fB21, (by omega), b21_0, b21_1, b21_2, b21_3, b21_4, b21_5, q182', q183', q184', q185', (by omega)⟩
  ·
    have hc13' := hc13; try simp only [decide_eq_true_eq, decide_eq_false_iff_not, Bool.and_eq_true, Bool.or_eq_true, Bool.and_eq_false_iff, Bool.or_eq_false_iff, beq_iff_eq, bne_iff_ne, Bool.not_eq_true', Bool.not_eq_false', ne_eq, bne_eq_false_iff_eq, beq_eq_false_iff_ne] at hc13'
    refine wp_exit ?_
    refine then_exit ?_
    refine then_exit ?_
    refine inBlock_at ?_
    refine hK9 _ _ ?_
    exact named_main_c19 x y gx gy b d t vi lo hi lo' hi' F q1 q2 L w hbx hby hcx hcy ht hto hv hck hkd hkt hwi j1 j2 j3 j4 j5 j6 hL hF hq n1 n2 n3 hFd hzz hasc hnam hcb hcg hcs1 hcs2 hcz g13 W13 bk1 bk2 bk4 a61' c62' bk5 g1' c4' g2' c5' g3' c6' bk3 bk0 k13_4 k13_5 k13_7 k13_10 k13_11 fB13 b13_0 b13_1 b13_2 b13_3 b13_4 b13_5 q99' q100' q101' q102' (by omega) (by omega) (by omega) (by omega) (by omega) (by omega) (by omega) (by omega) (by omega) (by omega) (by omega) (by omega) (by omega) (by omega) (by omega) (by omega) (by omega) (by omega) (by omega) (by omega) (by omega)
end Go.Proofs.YthnediamopehfaaGreat
