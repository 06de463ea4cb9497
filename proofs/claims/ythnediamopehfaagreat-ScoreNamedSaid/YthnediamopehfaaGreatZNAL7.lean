/- Part of the proof: what the claim leans on. -/
import Derived.Test.YthnediamopehfaaGreatZNAS6
set_option linter.unusedSimpArgs false
set_option linter.unusedVariables false
namespace Go.Proofs.YthnediamopehfaaGreat
open Go.RowKit
set_option maxRecDepth 100000 in
set_option maxHeartbeats 40000000 in
theorem named_main_c19 (x y : Sh) (gx : ShIn x) (gy : ShIn y) (b d t : Bl) (vi : Wi) (lo hi lo' hi' F q1 q2 : Int) (L : List Sp) (w : World) (hbx : shBl x = b) (hby : shBl y = d) (hcx : shCal x = (lo, hi)) (hcy : shCal y = (lo', hi')) (ht : twinB d = t) (hto : t.isOpen = vi.isOpen) (hv : wishOf y t lo' hi' = vi) (hck : checkErr b = 0) (hkd : checkErr d = 0) (hkt : checkErr t = 0) (hwi : wishErr vi = 0) (j1 : 1 ≤ lo) (j2 : lo ≤ hi) (j3 : hi ≤ 10000) (j4 : 1 ≤ lo') (j5 : lo' ≤ hi') (j6 : hi' ≤ 10000) (hL : closeL b vi (lo, hi) = L) (hF : calErr b vi = F) (hq : calOf b vi = (q1, q2)) (n1 : b.panels.length ≤ 1000) (n2 : b.top.length ≤ 1000) (n3 : b.bottom.length ≤ 1000) (hFd : (F != 0) = true → (F != 7) = false) (hzz : ((L.length : Int) == 0) = (((F == 0) && decide (q1 ≤ lo)) && decide (hi ≤ q2))) (hasc : ∀ i : Nat, i < L.length → 0 < (i : Int) → ¬ (nthP L i).1 ≤ (nthP L (i - 1)).1) (hnam : ∀ i : Nat, i < L.length → (0 ≤ (nthP L i).1 ∧ (nthP L i).1 ≤ 9) ∧ (lo ≤ (nthP L i).2 ∧ (nthP L i).2 ≤ hi) ∧ namedB (closeL b vi ((nthP L i).2, (nthP L i).2)) (nthP L i).1 = true ∧ (lo < (nthP L i).2 → namedB (closeL b vi (lo, (nthP L i).2 - 1)) (nthP L i).1 = false)) (hcb : F ≠ 0 → q1 = 0 ∧ q2 = 0) (hcg : F = 0 → 1 ≤ q1 ∧ q2 ≤ 10000 ∧ q1 ≤ q2) (hcs1 : F = 0 → 1 ≤ q1 - 1 ∧ q1 - 1 ≤ 10000 → (((closeL b vi (q1 - 1, q1 - 1)).length : Int) == 0) = false) (hcs2 : F = 0 → 1 ≤ q2 + 1 ∧ q2 + 1 ≤ 10000 → (((closeL b vi (q2 + 1, q2 + 1)).length : Int) == 0) = false) (hcz : F = 0 → (((closeL b vi (q1, q2)).length : Int) == 0) = true) (g_ : Nat → Value) (W_ : World) (bk1 : Nat) (bk2 : Nat) (bk4 : Nat) (a61' : Option Addr) (c62' : Nat) (bk5 : Nat) (g1' : Nat) (c4' : Nat) (g2' : Nat) (c5' : Nat) (g3' : Nat) (c6' : Nat) (bk3 : Nat) (bk0 : Nat)  (k_4 : g_ 4 = .bool false) (k_5 : g_ 5 = .pointer (some ⟨bk1, 0, none⟩)) (k_7 : g_ 7 = .pointer (some ⟨bk4, 0, none⟩)) (k_10 : g_ 10 = .pointer (some ⟨bk5, 0, none⟩)) (k_11 : g_ 11 = .int .i64 F) (fB_ : Below w.heap.size w W_) (bl_0 : W_.heap[bk3]? = some (.cells #[.int .u8 x.x0, .int .u8 x.x1, .int .u8 x.x2, .int .u8 x.x3, .int .u8 x.xh, .int .u8 x.y0, .int .u8 x.y1, .int .u8 x.y2, .int .u8 x.y3, .bool x.xo, .int .u8 x.ca, .int .u8 x.cb, .int .u8 x.v0, .int .u8 x.v1, .int .u8 x.v2, .int .u8 x.v3, .int .u8 x.v4] 72 (0, 0))) (bl_1 : W_.heap[bk0]? = some (.cells #[.int .u8 y.x0, .int .u8 y.x1, .int .u8 y.x2, .int .u8 y.x3, .int .u8 y.xh, .int .u8 y.y0, .int .u8 y.y1, .int .u8 y.y2, .int .u8 y.y3, .bool y.xo, .int .u8 y.ca, .int .u8 y.cb, .int .u8 y.v0, .int .u8 y.v1, .int .u8 y.v2, .int .u8 y.v3, .int .u8 y.v4] 72 (0, 0))) (bl_2 : W_.heap[bk1]? = some (.cells #[.int .i64 b.tab, .slice (some ⟨g1', 0, none⟩) (b.panels.length) (c4'), .int .i64 b.height, .slice (some ⟨g2', 0, none⟩) (b.top.length) (c5'), .slice (some ⟨g3', 0, none⟩) (b.bottom.length) (c6'), .int .i64 b.slot, .bool b.isOpen] 24 (0, 0))) (bl_3 : W_.heap[bk2]? = some (.cells #[.int .i64 lo, .int .i64 hi] 26 (0, 0))) (bl_4 : W_.heap[bk4]? = some (.cells #[.int .i64 vi.length.1, .int .i64 vi.length.2, .int .i64 vi.width.1, .int .i64 vi.width.2, .int .i64 vi.height.1, .int .i64 vi.height.2, .int .i64 vi.outer.1, .int .i64 vi.outer.2, .int .i64 vi.inner.1, .int .i64 vi.inner.2, .bool vi.isOpen] 43 (0, 0))) (bl_5 : W_.heap[bk5]? = some (.cells #[.int .i64 q1, .int .i64 q2] 26 (0, 0))) (ft_0 : OwnI 0 b.panels g1' c4' W_) (ft_1 : OwnI 0 b.top g2' c5' W_) (ft_2 : OwnI 0 b.bottom g3' c6' W_) (ft_3 : Pp W_ a61' L.length c62' L) (lw_bk3 : w.heap.size ≤ bk3) (lw_bk0 : w.heap.size ≤ bk0) (lw_bk1 : w.heap.size ≤ bk1) (lw_bk2 : w.heap.size ≤ bk2) (lw_bk4 : w.heap.size ≤ bk4) (lw_bk5 : w.heap.size ≤ bk5) (ne_0_1 : bk3 ≠ bk0) (ne_0_2 : bk3 ≠ bk1) (ne_1_2 : bk0 ≠ bk1) (ne_0_3 : bk3 ≠ bk2) (ne_1_3 : bk0 ≠ bk2) (ne_2_3 : bk1 ≠ bk2) (ne_0_4 : bk3 ≠ bk4) (ne_1_4 : bk0 ≠ bk4) (ne_2_4 : bk1 ≠ bk4) (ne_3_4 : bk2 ≠ bk4) (ne_0_5 : bk3 ≠ bk5) (ne_1_5 : bk0 ≠ bk5) (ne_2_5 : bk1 ≠ bk5) (ne_3_5 : bk2 ≠ bk5) (ne_4_5 : bk4 ≠ bk5) :
    (tailC 7 (bodyC Tryz.f8)).wp Tryz.prog (bodyPost Tryz.prog Tryz.f8 (fun e w' => e = .returned (.bool true) ∧ Below w.heap.size w w')) (fr 281 g_) W_ := by
  have hll0 := hck
  have lt_bk3 := lt_of_blk bl_0
  have lt_bk0 := lt_of_blk bl_1
  have lt_bk1 := lt_of_blk bl_2
  have lt_bk2 := lt_of_blk bl_3
  have lt_bk4 := lt_of_blk bl_4
  have lt_bk5 := lt_of_blk bl_5
  have lim187' := Pp.lim ft_3
  refine wp_seq_k fun K27 hK27 => ?_
  refine wp_seq_k fun K28 hK28 => ?_
  as_aux_lemma =>
  refine region_do 2 [(204, 0), (205, 1)] [[], [0]] (rel [is (.int .i64 F),
      is (.bool (F != 0))]) (by kernel_rfl) (by kernel_rfl) (by kernel_rfl) (by kernel_rfl)
    ⟨is_k, is_k, trivial⟩
    ⟨fun f s W hW hd hs hz ac hac => opv rfl rfl (by simp [go_sem, hac.e 11 k_11]) rfl,
    fun f s W hW hd hs hz ac hac => opv rfl rfl (by simp [go_sem, hac.e 204 (hd 0 rfl)]) rfl, trivial⟩ ?_
  intro f22 s22 W22 hB22
  have fB22 : Below w.heap.size w W22 := below_trans fB_ hB22.below
  have z22 : W_.heap.size ≤ W22.heap.size := hB22.below.size
  have b22_0 := blk_below bl_0 hB22.below
  have b22_1 := blk_below bl_1 hB22.below
  have b22_2 := blk_below bl_2 hB22.below
  have b22_3 := blk_below bl_3 hB22.below
  have b22_4 := blk_below bl_4 hB22.below
  have b22_5 := blk_below bl_5 hB22.below
  have q188' := (ft_0.below hB22.below)
  have q189' := (ft_1.below hB22.below)
  have q190' := (ft_2.below hB22.below)
  have q191' := (ft_3.below hB22.below (Nat.le_refl _))
  refine hK28 _ _ ?_
  generalize hg22 : ov [(204, 0), (205, 1)] f22 g_ = g22
  have k22_4 := kt hg22 4 k_4
  have k22_5 := kt hg22 5 k_5
  have k22_7 := kt hg22 7 k_7
  have k22_10 := kt hg22 10 k_10
  have k22_205 := kt hg22 205 (hB22.is 1)
  refine wp_cond_split (t := F != 0) ((fr_eval rfl).trans k22_205) (fun hc29 => ?_) (fun hc29 => ?_)
  ·
    have hc29' := hc29; try simp only [decide_eq_true_eq, decide_eq_false_iff_not, Bool.and_eq_true, Bool.or_eq_true, Bool.and_eq_false_iff, Bool.or_eq_false_iff, beq_iff_eq, bne_iff_ne, Bool.not_eq_true', Bool.not_eq_false', ne_eq, bne_eq_false_iff_eq, beq_eq_false_iff_ne] at hc29'
    have hF0 : F ≠ 0 := bne_iff_ne.1 hc29
    obtain ⟨rfl, rfl⟩ := hcb hF0
    ·
      refine wp_seq_k fun K30 hK30 => ?_
      as_aux_lemma =>
      refine region_do 7 [(206, 0), (207, 1), (208, 2), (209, 3), (210, 4), (211, 5), (4, 6)] [[], [], [0, 1], [0, 1, 2], [0, 1, 2, 3], [0, 1, 2, 3, 4], [0, 1, 2, 3, 4, 5]] (rel [is (.agg #[.int .i64 0, .int .i64 0]),
      is (.agg #[.int .i64 0, .int .i64 0]),
      is (.bool true),
      is (.bool true),
      is (.bool true),
      is (.bool true),
      is (.bool true)]) (by kernel_rfl) (by kernel_rfl) (by kernel_rfl) (by kernel_rfl)
        ⟨is_k, is_k, is_k, is_k, is_k, is_k, is_k, trivial⟩
        ⟨fun f s W hW hd hs hz ac hac => opv rfl rfl (by simp [go_sem, hac.e 10 k22_10, Joins.cell_of_block (blk_below b22_5 hW) 0, Joins.cell_of_block (blk_below b22_5 hW) 1]) rfl,
    fun f s W hW hd hs hz ac hac => opv rfl rfl (by simp [go_sem]) rfl,
    fun f s W hW hd hs hz ac hac => opv rfl rfl (by simp [go_sem, hac.e 206 (hd 0 rfl), hac.e 207 (hd 1 rfl)]) rfl,
    fun f s W hW hd hs hz ac hac => opv rfl rfl (by simp [go_sem, hac.e 208 (hd 2 rfl)]) rfl,
    fun f s W hW hd hs hz ac hac => osure rfl rfl (hac.says (d := 209) rfl rfl (hd 3 rfl)) (gc (by simp [go_sem]) (known_any W)),
    fun f s W hW hd hs hz ac hac => opk (c := true) rfl rfl (fun h => absurd h (by decide)) (fun _ => by simp [go_sem, hac.e 209 (hd 3 rfl), hac.e 210 (hd 4 rfl)]),
    fun f s W hW hd hs hz ac hac => opv rfl rfl (by simp [go_sem, hac.e 211 (hd 5 rfl)]) rfl, trivial⟩ ?_
      intro f23 s23 W23 hB23
      have fB23 : Below w.heap.size w W23 := below_trans fB22 hB23.below
      have z23 : W22.heap.size ≤ W23.heap.size := hB23.below.size
      have b23_0 := blk_below b22_0 hB23.below
      have b23_1 := blk_below b22_1 hB23.below
      have b23_2 := blk_below b22_2 hB23.below
      have b23_3 := blk_below b22_3 hB23.below
      have b23_4 := blk_below b22_4 hB23.below
      have b23_5 := blk_below b22_5 hB23.below
      have q192' := (q188'.below hB23.below)
      have q193' := (q189'.below hB23.below)
      have q194' := (q190'.below hB23.below)
      have q195' := (q191'.below hB23.below (Nat.le_refl _))
      refine hK30 _ _ ?_
      generalize hg23 : ov [(206, 0), (207, 1), (208, 2), (209, 3), (210, 4), (211, 5), (4, 6)] f23 g22 = g23
      have k23_5 := kt hg23 5 k22_5
      have k23_7 := kt hg23 7 k22_7
      have k23_10 := kt hg23 10 k22_10
      have k23_4 := kt hg23 4 (hB23.is 6)
      refine wp_ret ?_
      refine then_ret ?_
      refine leave_one (N := 281) (v := .bool true) (.inr rfl) Tryz.results8 rfl k23_4 ?_
      exact ⟨rfl, fB23⟩
  ·
    have hc29' := hc29; try simp only [decide_eq_true_eq, decide_eq_false_iff_not, Bool.and_eq_true, Bool.or_eq_true, Bool.and_eq_false_iff, Bool.or_eq_false_iff, beq_iff_eq, bne_iff_ne, Bool.not_eq_true', Bool.not_eq_false', ne_eq, bne_eq_false_iff_eq, beq_eq_false_iff_ne] at hc29'
    have hF0 : F = 0 := bne_eq_false_iff_eq.1 hc29
    obtain ⟨hq1, hq2, hq3⟩ := hcg hF0
    have hq1_ := Int.not_lt.2 hq1
    have hq2_ := Int.not_lt.2 hq2
    have hq3_ := Int.not_lt.2 hq3
    have hz3_ := hcz hF0
    refine wp_skip ?_
    refine hK27 _ _ ?_
    refine wp_seq_k fun K31 hK31 => ?_
    refine wp_seq_k fun K32 hK32 => ?_
    as_aux_lemma =>
    refine region_do 15 [(212, 0), (213, 1), (214, 2), (215, 3), (216, 4), (217, 5), (218, 6), (219, 7), (220, 8), (221, 9), (222, 10), (223, 11), (224, 12), (225, 13), (226, 14)] [[], [0], [0, 1], [0, 1, 2], [0, 1, 2, 3], [0, 1, 2, 3, 4], [0, 1, 2, 3, 4, 5], [0, 1, 2, 3, 4, 5, 6], [0, 1, 2, 3, 4, 5, 6, 7], [0, 1, 2, 3, 4, 5, 6, 7, 8], [0, 1, 2, 3, 4, 5, 6, 7, 8, 9], [0, 1, 2, 3, 4, 5, 6, 7, 8], [0, 1, 2, 3, 4, 5, 6, 7, 8, 11], [0, 1, 2, 3, 4, 5, 6, 7, 8, 9, 10, 11, 12], [0, 1, 2, 3, 4, 5, 6, 7, 8, 9, 10, 11, 12, 13]] (rel [is (.pointer (some ⟨bk5, 0, none⟩)),
      is (.int .i64 q1),
      is (.bool false),
      is (.bool false),
      is (.pointer (some ⟨bk5, 1, none⟩)),
      is (.int .i64 q2),
      is (.bool false),
      is (.bool false),
      is (.bool false),
      is (.pointer (some ⟨bk5, 0, none⟩)),
      is (.int .i64 q1),
      is (.pointer (some ⟨bk5, 1, none⟩)),
      is (.int .i64 q2),
      is (.bool false),
      is (.bool false)]) (by kernel_rfl) (by kernel_rfl) (by kernel_rfl) (by kernel_rfl)
      ⟨is_k, is_k, is_k, is_k, is_k, is_k, is_k, is_k, is_k, is_k, is_k, is_k, is_k, is_k, is_k, trivial⟩
      ⟨fun f s W hW hd hs hz ac hac => opv rfl rfl (by simp [go_sem, hac.e 10 k22_10]) rfl,
    fun f s W hW hd hs hz ac hac => opv rfl rfl (by simp [go_sem, hac.e 212 (hd 0 rfl), Joins.cell_of_block (blk_below b22_5 hW) 0]) rfl,
    fun f s W hW hd hs hz ac hac => opv rfl rfl (by simp [go_sem, hac.e 213 (hd 1 rfl), hq1_]) rfl,
    fun f s W hW hd hs hz ac hac => opv rfl rfl (by simp [go_sem, hac.e 214 (hd 2 rfl)]) rfl,
    fun f s W hW hd hs hz ac hac => osure rfl rfl (hac.says (d := 215) rfl rfl (hd 3 rfl)) (gv (by simp [go_sem, hac.e 10 k22_10]) rfl),
    fun f s W hW hd hs hz ac hac => osure rfl rfl (hac.says (d := 215) rfl rfl (hd 3 rfl)) (gv (by simp [go_sem, hac.e 216 (hd 4 rfl), Joins.cell_of_block (blk_below b22_5 hW) 1]) rfl),
    fun f s W hW hd hs hz ac hac => osure rfl rfl (hac.says (d := 215) rfl rfl (hd 3 rfl)) (gv (by simp [go_sem, hac.e 217 (hd 5 rfl), hq2_]) rfl),
    fun f s W hW hd hs hz ac hac => opk (c := false) rfl rfl (fun _ => by simp [go_sem, hac.e 215 (hd 3 rfl), hac.e 218 (hd 6 rfl)]) (fun h => absurd h (by decide)),
    fun f s W hW hd hs hz ac hac => opv rfl rfl (by simp [go_sem, hac.e 219 (hd 7 rfl)]) rfl,
    fun f s W hW hd hs hz ac hac => osure rfl rfl (hac.says (d := 220) rfl rfl (hd 8 rfl)) (gv (by simp [go_sem, hac.e 10 k22_10]) rfl),
    fun f s W hW hd hs hz ac hac => osure rfl rfl (hac.says (d := 220) rfl rfl (hd 8 rfl)) (gv (by simp [go_sem, hac.e 221 (hd 9 rfl), Joins.cell_of_block (blk_below b22_5 hW) 0]) rfl),
    fun f s W hW hd hs hz ac hac => osure rfl rfl (hac.says (d := 220) rfl rfl (hd 8 rfl)) (gv (by simp [go_sem, hac.e 10 k22_10]) rfl),
    fun f s W hW hd hs hz ac hac => osure rfl rfl (hac.says (d := 220) rfl rfl (hd 8 rfl)) (gv (by simp [go_sem, hac.e 223 (hd 11 rfl), Joins.cell_of_block (blk_below b22_5 hW) 1]) rfl),
    fun f s W hW hd hs hz ac hac => osure rfl rfl (hac.says (d := 220) rfl rfl (hd 8 rfl)) (gv (by simp [go_sem, hac.e 222 (hd 10 rfl), hac.e 224 (hd 12 rfl), hq3_]) rfl),
    fun f s W hW hd hs hz ac hac => opk (c := false) rfl rfl (fun _ => by simp [go_sem, hac.e 220 (hd 8 rfl), hac.e 225 (hd 13 rfl)]) (fun h => absurd h (by decide)), trivial⟩ ?_
    intro f24 s24 W24 hB24
    have fB24 : Below w.heap.size w W24 := below_trans fB22 hB24.below
    have z24 : W22.heap.size ≤ W24.heap.size := hB24.below.size
    have b24_0 := blk_below b22_0 hB24.below
    have b24_1 := blk_below b22_1 hB24.below
    have b24_2 := blk_below b22_2 hB24.below
    have b24_3 := blk_below b22_3 hB24.below
    have b24_4 := blk_below b22_4 hB24.below
    have b24_5 := blk_below b22_5 hB24.below
    have q196' := (q188'.below hB24.below)
    have q197' := (q189'.below hB24.below)
    have q198' := (q190'.below hB24.below)
    have q199' := (q191'.below hB24.below (Nat.le_refl _))
    refine hK32 _ _ ?_
    generalize hg24 : ov [(212, 0), (213, 1), (214, 2), (215, 3), (216, 4), (217, 5), (218, 6), (219, 7), (220, 8), (221, 9), (222, 10), (223, 11), (224, 12), (225, 13), (226, 14)] f24 g22 = g24
    have k24_4 := kt hg24 4 k22_4
    have k24_5 := kt hg24 5 k22_5
    have k24_7 := kt hg24 7 k22_7
    have k24_10 := kt hg24 10 k22_10
    have k24_226 := kt hg24 226 (hB24.is 14)
    refine wp_cond_false ((fr_eval rfl).trans k24_226) ?_
    refine wp_skip ?_
    refine hK31 _ _ ?_
    refine wp_seq_k fun K34 hK34 => ?_
    refine wp_seq_k fun K35 hK35 => ?_
    as_aux_lemma =>
    refine region_do 1 [(17, 0)] [[]] (rel [is (.int .i64 0)]) (by kernel_rfl) (by kernel_rfl) (by kernel_rfl) (by kernel_rfl)
      ⟨is_k, trivial⟩
      ⟨fun f s W hW hd hs hz ac hac => opv rfl rfl (by simp [go_sem]) rfl, trivial⟩ ?_
    intro f25 s25 W25 hB25
    have fB25 : Below w.heap.size w W25 := below_trans fB24 hB25.below
    have z25 : W24.heap.size ≤ W25.heap.size := hB25.below.size
    have b25_0 := blk_below b24_0 hB25.below
    have b25_1 := blk_below b24_1 hB25.below
    have b25_2 := blk_below b24_2 hB25.below
    have b25_3 := blk_below b24_3 hB25.below
    have b25_4 := blk_below b24_4 hB25.below
    have b25_5 := blk_below b24_5 hB25.below
    have q200' := (q196'.below hB25.below)
    have q201' := (q197'.below hB25.below)
    have q202' := (q198'.below hB25.below)
    have q203' := (q199'.below hB25.below (Nat.le_refl _))
    refine hK35 _ _ ?_
    generalize hg25 : ov [(17, 0)] f25 g24 = g25
    have k25_4 := kt hg25 4 k24_4
    have k25_5 := kt hg25 5 k24_5
    have k25_7 := kt hg25 7 k24_7
    have k25_10 := kt hg25 10 k24_10
    have k25_17 := kt hg25 17 (hB25.is 0)
    refine wp_block ?_
    refine wp_loop_rounds 3 ?_
    rw [rounds_succ]
    refine wp_seq_k fun K36 hK36 => ?_
    refine wp_seq_k fun K37 hK37 => ?_
    as_aux_lemma =>
    refine region_do 2 [(227, 0), (228, 1)] [[], [0]] (rel [is (.int .i64 0),
      is (.bool true)]) (by kernel_rfl) (by kernel_rfl) (by kernel_rfl) (by kernel_rfl)
      ⟨is_k, is_k, trivial⟩
      ⟨fun f s W hW hd hs hz ac hac => opv rfl rfl (by simp [go_sem, hac.e 17 k25_17]) rfl,
    fun f s W hW hd hs hz ac hac => opv rfl rfl (by simp [go_sem, hac.e 227 (hd 0 rfl)]) rfl, trivial⟩ ?_
    intro f26 s26 W26 hB26
    have fB26 : Below w.heap.size w W26 := below_trans fB25 hB26.below
    have z26 : W25.heap.size ≤ W26.heap.size := hB26.below.size
    have b26_0 := blk_below b25_0 hB26.below
    have b26_1 := blk_below b25_1 hB26.below
    have b26_2 := blk_below b25_2 hB26.below
    have b26_3 := blk_below b25_3 hB26.below
    have b26_4 := blk_below b25_4 hB26.below
    have b26_5 := blk_below b25_5 hB26.below
    have q204' := (q200'.below hB26.below)
    have q205' := (q201'.below hB26.below)
    have q206' := (q202'.below hB26.below)
    have q207' := (q203'.below hB26.below (Nat.le_refl _))
    refine hK37 _ _ ?_
    generalize hg26 : ov [(227, 0), (228, 1)] f26 g25 = g26
    have k26_4 := kt hg26 4 k25_4
    have k26_5 := kt hg26 5 k25_5
    have k26_7 := kt hg26 7 k25_7
    have k26_10 := kt hg26 10 k25_10
    have k26_17 := kt hg26 17 k25_17
    have k26_228 := kt hg26 228 (hB26.is 1)
    refine wp_cond_true ((fr_eval rfl).trans k26_228) ?_
    refine wp_skip ?_
    refine hK36 _ _ ?_
    refine wp_seq_k fun K39 hK39 => ?_
    suffices J208' : ∀ (g_ : Nat → Value) (W_ : World), (g_ 4 = .bool false ∧ g_ 5 = .pointer (some ⟨bk1, 0, none⟩) ∧ g_ 7 = .pointer (some ⟨bk4, 0, none⟩) ∧ g_ 10 = .pointer (some ⟨bk5, 0, none⟩) ∧ g_ 17 = .int .i64 0 ∧ g_ 228 = .bool true ∧ Below w.heap.size w W_ ∧ W26.heap.size ≤ W_.heap.size ∧ W_.heap[bk3]? = some (.cells #[.int .u8 x.x0, .int .u8 x.x1, .int .u8 x.x2, .int .u8 x.x3, .int .u8 x.xh, .int .u8 x.y0, .int .u8 x.y1, .int .u8 x.y2, .int .u8 x.y3, .bool x.xo, .int .u8 x.ca, .int .u8 x.cb, .int .u8 x.v0, .int .u8 x.v1, .int .u8 x.v2, .int .u8 x.v3, .int .u8 x.v4] 72 (0, 0)) ∧ W_.heap[bk0]? = some (.cells #[.int .u8 y.x0, .int .u8 y.x1, .int .u8 y.x2, .int .u8 y.x3, .int .u8 y.xh, .int .u8 y.y0, .int .u8 y.y1, .int .u8 y.y2, .int .u8 y.y3, .bool y.xo, .int .u8 y.ca, .int .u8 y.cb, .int .u8 y.v0, .int .u8 y.v1, .int .u8 y.v2, .int .u8 y.v3, .int .u8 y.v4] 72 (0, 0)) ∧ W_.heap[bk1]? = some (.cells #[.int .i64 b.tab, .slice (some ⟨g1', 0, none⟩) (b.panels.length) (c4'), .int .i64 b.height, .slice (some ⟨g2', 0, none⟩) (b.top.length) (c5'), .slice (some ⟨g3', 0, none⟩) (b.bottom.length) (c6'), .int .i64 b.slot, .bool b.isOpen] 24 (0, 0)) ∧ W_.heap[bk2]? = some (.cells #[.int .i64 lo, .int .i64 hi] 26 (0, 0)) ∧ W_.heap[bk4]? = some (.cells #[.int .i64 vi.length.1, .int .i64 vi.length.2, .int .i64 vi.width.1, .int .i64 vi.width.2, .int .i64 vi.height.1, .int .i64 vi.height.2, .int .i64 vi.outer.1, .int .i64 vi.outer.2, .int .i64 vi.inner.1, .int .i64 vi.inner.2, .bool vi.isOpen] 43 (0, 0)) ∧ W_.heap[bk5]? = some (.cells #[.int .i64 q1, .int .i64 q2] 26 (0, 0)) ∧ OwnI 0 b.panels g1' c4' W_ ∧ OwnI 0 b.top g2' c5' W_ ∧ OwnI 0 b.bottom g3' c6' W_ ∧ Pp W_ a61' L.length c62' L) → K39 (fr 281 g_) W_ by
      refine wp_block ?_
      refine wp_seq_k fun K40 hK40 => ?_
      as_aux_lemma =>
      refine region_do 10 [(231, 0), (232, 1), (233, 2), (234, 3), (235, 4), (236, 5), (237, 6), (238, 7), (239, 8), (18, 9)] [[], [0], [0, 1], [], [3], [3, 4], [0, 1, 2, 3, 4, 5], [], [0, 1, 2, 3, 4, 5, 6, 7], [0, 1, 2, 3, 4, 5, 6, 7, 8]] (rel [is (.pointer (some ⟨bk5, 0, none⟩)),
      is (.int .i64 q1),
      is (.int .i64 (q1 - 1)),
      is (.pointer (some ⟨bk5, 1, none⟩)),
      is (.int .i64 q2),
      is (.int .i64 (q2 + 1)),
      is (.agg #[.int .i64 (q1 - 1), .int .i64 (q2 + 1)]),
      is (.int .i64 0),
      is (.int .i64 (q1 - 1)),
      is (.int .i64 (q1 - 1))]) (by kernel_rfl) (by kernel_rfl) (by kernel_rfl) (by kernel_rfl)
        ⟨is_k, is_k, is_k, is_k, is_k, is_k, is_k, is_k, is_k, is_k, trivial⟩
        ⟨fun f s W hW hd hs hz ac hac => opv rfl rfl (by simp [go_sem, hac.e 10 k26_10]) rfl,
    fun f s W hW hd hs hz ac hac => opv rfl rfl (by simp [go_sem, hac.e 231 (hd 0 rfl), Joins.cell_of_block (blk_below b26_5 hW) 0]) rfl,
    fun f s W hW hd hs hz ac hac => opv rfl rfl (by simp [go_sem, hac.e 232 (hd 1 rfl), IntWalk.i64_in (q1 - 1) (by omega)]) rfl,
    fun f s W hW hd hs hz ac hac => opv rfl rfl (by simp [go_sem, hac.e 10 k26_10]) rfl,
    fun f s W hW hd hs hz ac hac => opv rfl rfl (by simp [go_sem, hac.e 234 (hd 3 rfl), Joins.cell_of_block (blk_below b26_5 hW) 1]) rfl,
    fun f s W hW hd hs hz ac hac => opv rfl rfl (by simp [go_sem, hac.e 235 (hd 4 rfl), IntWalk.i64_in (q2 + 1) (by omega)]) rfl,
    fun f s W hW hd hs hz ac hac => opv rfl rfl (by simp [go_sem, hac.e 233 (hd 2 rfl), hac.e 236 (hd 5 rfl)]) rfl,
    fun f s W hW hd hs hz ac hac => opv rfl rfl (by simp [go_sem, hac.e 17 k26_17]) rfl,
    fun f s W hW hd hs hz ac hac => by have ix_ : ∀ W : World, (Instr.index 40 (.agg #[.int .i64 (q1 - 1), .int .i64 (q2 + 1)]) (.int .i64 0)).run Tryz.prog W = .ok (.int .i64 (q1 - 1)) W := fun W => (by kernel_rfl); exact opv rfl rfl (by simp [go_sem, hac.e 237 (hd 6 rfl), hac.e 238 (hd 7 rfl), ix_]) rfl,
    fun f s W hW hd hs hz ac hac => opv rfl rfl (by simp [go_sem, hac.e 239 (hd 8 rfl)]) rfl, trivial⟩ ?_
      intro f27 s27 W27 hB27
      have fB27 : Below w.heap.size w W27 := below_trans fB26 hB27.below
      have z27 : W26.heap.size ≤ W27.heap.size := hB27.below.size
      have b27_0 := blk_below b26_0 hB27.below
      have b27_1 := blk_below b26_1 hB27.below
      have b27_2 := blk_below b26_2 hB27.below
      have b27_3 := blk_below b26_3 hB27.below
      have b27_4 := blk_below b26_4 hB27.below
      have b27_5 := blk_below b26_5 hB27.below
      have q209' := (q204'.below hB27.below)
      have q210' := (q205'.below hB27.below)
      have q211' := (q206'.below hB27.below)
      have q212' := (q207'.below hB27.below (Nat.le_refl _))
      refine hK40 _ _ ?_
      generalize hg27 : ov [(231, 0), (232, 1), (233, 2), (234, 3), (235, 4), (236, 5), (237, 6), (238, 7), (239, 8), (18, 9)] f27 g26 = g27
      have k27_4 := kt hg27 4 k26_4
      have k27_5 := kt hg27 5 k26_5
      have k27_7 := kt hg27 7 k26_7
      have k27_10 := kt hg27 10 k26_10
      have k27_17 := kt hg27 17 k26_17
      have k27_228 := kt hg27 228 k26_228
      have k27_18 := kt hg27 18 (hB27.is 9)
      refine wp_seq_k fun K41 hK41 => ?_
      refine wp_seq_k fun K42 hK42 => ?_
      as_aux_lemma =>
      refine region_do 6 [(240, 0), (241, 1), (242, 2), (243, 3), (244, 4), (245, 5)] [[], [0], [0, 1], [0, 1, 2], [0, 1, 2, 3], [0, 1, 2, 3, 4]] (rel [is (.int .i64 (q1 - 1)),
      is (.bool (decide ((q1 - 1) < 1))),
      is (.bool (decide ((q1 - 1) < 1))),
      gd (decide ((q1 - 1) < 1)) false (is (.int .i64 (q1 - 1))),
      gd (decide ((q1 - 1) < 1)) false (is (.bool (decide (10000 < (q1 - 1))))),
      is (.bool ((decide ((q1 - 1) < 1)) || (decide (10000 < (q1 - 1)))))]) (by kernel_rfl) (by kernel_rfl) (by kernel_rfl) (by kernel_rfl)
        ⟨is_k, is_k, is_k, gd_k (is_k), gd_k (is_k), is_k, trivial⟩
        ⟨fun f s W hW hd hs hz ac hac => opv rfl rfl (by simp [go_sem, hac.e 18 k27_18]) rfl,
    fun f s W hW hd hs hz ac hac => opv rfl rfl (by simp [go_sem, hac.e 240 (hd 0 rfl)]) rfl,
    fun f s W hW hd hs hz ac hac => opv rfl rfl (by simp [go_sem, hac.e 241 (hd 1 rfl)]) rfl,
    fun f s W hW hd hs hz ac hac => gdo rfl rfl (hac.says (d := 242) rfl rfl (hd 2 rfl)) fun hgd0 => gv (by simp [go_sem, hac.e 18 k27_18]) rfl,
    fun f s W hW hd hs hz ac hac => gdo rfl rfl (hac.says (d := 242) rfl rfl (hd 2 rfl)) fun hgd0 => gv (by simp [go_sem, hac.e 243 ((hd 3 rfl).1 hgd0)]) rfl,
    fun f s W hW hd hs hz ac hac => opk (c := decide ((q1 - 1) < 1)) rfl rfl (fun hpk => by first | (simp [go_sem, hpk, hac.e 242 (hd 2 rfl), hac.e 244 ((hd 4 rfl).1 hpk)]; done) | (have hpk' := hpk; simp at hpk'; simp [go_sem, hpk', hpk, hac.e 242 (hd 2 rfl), hac.e 244 ((hd 4 rfl).1 hpk)])) (fun hpk => by first | (simp [go_sem, hpk, hac.e 242 (hd 2 rfl)]; done) | (have hpk' := hpk; simp at hpk'; simp [go_sem, hpk', hpk, hac.e 242 (hd 2 rfl)])), trivial⟩ ?_
      intro f28 s28 W28 hB28
      have fB28 : Below w.heap.size w W28 := below_trans fB27 hB28.below
      have z28 : W27.heap.size ≤ W28.heap.size := hB28.below.size
      have b28_0 := blk_below b27_0 hB28.below
      have b28_1 := blk_below b27_1 hB28.below
      have b28_2 := blk_below b27_2 hB28.below
      have b28_3 := blk_below b27_3 hB28.below
      have b28_4 := blk_below b27_4 hB28.below
      have b28_5 := blk_below b27_5 hB28.below
      have q213' := (q209'.below hB28.below)
      have q214' := (q210'.below hB28.below)
      have q215' := (q211'.below hB28.below)
      have q216' := (q212'.below hB28.below (Nat.le_refl _))
      refine hK42 _ _ ?_
      generalize hg28 : ov [(240, 0), (241, 1), (242, 2), (243, 3), (244, 4), (245, 5)] f28 g27 = g28
      have k28_4 := kt hg28 4 k27_4
      have k28_5 := kt hg28 5 k27_5
      have k28_7 := kt hg28 7 k27_7
      have k28_10 := kt hg28 10 k27_10
      have k28_17 := kt hg28 17 k27_17
      have k28_228 := kt hg28 228 k27_228
      have k28_18 := kt hg28 18 k27_18
      have k28_245 := kt hg28 245 (hB28.is 5)
      refine wp_cond_split (t := (decide ((q1 - 1) < 1)) || (decide (10000 < (q1 - 1)))) ((fr_eval rfl).trans k28_245) (fun hc43 => ?_) (fun hc43 => ?_)
      ·
        have hc43' := hc43; try simp only [decide_eq_true_eq, decide_eq_false_iff_not, Bool.and_eq_true, Bool.or_eq_true, Bool.and_eq_false_iff, Bool.or_eq_false_iff, beq_iff_eq, bne_iff_ne, Bool.not_eq_true', Bool.not_eq_false', ne_eq, bne_eq_false_iff_eq, beq_eq_false_iff_ne] at hc43'
        refine wp_exit ?_
        refine then_exit ?_
        refine inBlock_at ?_
        exact J208' _ _ ⟨k28_4, k28_5, k28_7, k28_10, k28_17, k28_228, fB28, (by omega), b28_0, b28_1, b28_2, b28_3, b28_4, b28_5, q213', q214', q215', q216'⟩
      ·
        have hc43' := hc43; try simp only [decide_eq_true_eq, decide_eq_false_iff_not, Bool.and_eq_true, Bool.or_eq_true, Bool.and_eq_false_iff, Bool.or_eq_false_iff, beq_iff_eq, bne_iff_ne, Bool.not_eq_true', Bool.not_eq_false', ne_eq, bne_eq_false_iff_eq, beq_eq_false_iff_ne] at hc43'
        have hat_ : 1 ≤ (q1 - 1) ∧ (q1 - 1) ≤ 10000 := by simpa using hc43
        have hz1_ := hcs1 hF0 hat_
        refine wp_skip ?_
        refine hK41 _ _ ?_
        refine wp_seq_k fun K44 hK44 => ?_
        as_aux_lemma =>
        refine region_do 12 [(247, 0), (248, 1), (249, 2), (250, 3), (251, 4), (252, 5), (253, 6), (246, 7), (254, 8), (255, 9), (19, 10), (20, 11)] [[], [0], [], [], [], [0, 1, 3, 4], [0, 1, 2, 3, 4, 5], [0, 1, 2, 3, 4, 5, 6], [0, 1, 2, 3, 4, 5, 6, 7], [0, 1, 2, 3, 4, 5, 6, 7], [0, 1, 2, 3, 4, 5, 6, 7, 8], [0, 1, 2, 3, 4, 5, 6, 7, 8, 9, 10]] (rel [is (.agg #[.int .i64 b.tab, .slice (some ⟨g1', 0, none⟩) (b.panels.length) (c4'), .int .i64 b.height, .slice (some ⟨g2', 0, none⟩) (b.top.length) (c5'), .slice (some ⟨g3', 0, none⟩) (b.bottom.length) (c6'), .int .i64 b.slot, .bool b.isOpen]),
      fun v s W => NwBlk (s 1) (b) v W,
      is (.agg #[.int .i64 vi.length.1, .int .i64 vi.length.2, .int .i64 vi.width.1, .int .i64 vi.width.2, .int .i64 vi.height.1, .int .i64 vi.height.2, .int .i64 vi.outer.1, .int .i64 vi.outer.2, .int .i64 vi.inner.1, .int .i64 vi.inner.2, .bool vi.isOpen]),
      is (.int .i64 (q1 - 1)),
      is (.int .i64 (q1 - 1)),
      is (.agg #[.int .i64 (q1 - 1), .int .i64 (q1 - 1)]),
      ab fun v W => ∃ x0, v = .tuple #[x0, .int .i64 0] ∧ IsPp (closeL b vi (q1 - 1, q1 - 1)) x0 W,
      ab fun v W => ∃ x0, v = .tuple #[x0, .int .i64 0] ∧ IsPp (closeL b vi (q1 - 1, q1 - 1)) x0 W,
      ab fun v W => IsPp (closeL b vi (q1 - 1, q1 - 1)) v W,
      is (.int .i64 0),
      ab fun v W => IsPp (closeL b vi (q1 - 1, q1 - 1)) v W,
      is (.int .i64 0)]) (by kernel_rfl) (by kernel_rfl) (by kernel_rfl) (by kernel_rfl)
          ⟨is_k, ⟨fun v k W W' hb h => h.below hb, fun v s s' W e h => by have h' : NwBlk (s 1) (b) v W := h; show NwBlk (s' 1) (b) v W; rw [← e 1 (by simp)]; exact h'⟩, is_k, is_k, is_k, is_k, ab_k fun v W W' hb ⟨x0, e, h0⟩ => ⟨x0, e, h0.below hb⟩, ab_k fun v W W' hb ⟨x0, e, h0⟩ => ⟨x0, e, h0.below hb⟩, ab_k fun v W W' hb h => h.below hb, is_k, ab_k fun v W W' hb h => h.below hb, is_k, trivial⟩
          ⟨fun f s W hW hd hs hz ac hac => opl rfl rfl rfl (hac.v 5 k28_5) (blk_below b28_2 hW) Tryz.underlying24 rfl (by kernel_rfl) rfl,
    fun f s W hW hd hs hz ac hac => opDo_call (args := #[.agg #[.int .i64 b.tab, .slice (some ⟨g1', 0, none⟩) (b.panels.length) (c4'), .int .i64 b.height, .slice (some ⟨g2', 0, none⟩) (b.top.length) (c5'), .slice (some ⟨g3', 0, none⟩) (b.bottom.length) (c6'), .int .i64 b.slot, .bool b.isOpen]]) rfl rfl (by simp [go_sem, hac.e 247 (hd 0 rfl)]) (own_any _ _ _ _ _ _ b W ((q213'.below hW)).ii ((q214'.below hW)).ii ((q215'.below hW)).ii n1 n2 n3) (fun e W' h => by obtain ⟨v, e1, h1, h2⟩ := h; exact ⟨v, e1, h2, (show NwBlk (upd s 1 W.heap.size 1) (b) v W' from by rw [upd_at]; exact h1)⟩),
    fun f s W hW hd hs hz ac hac => opl rfl rfl rfl (hac.v 7 k28_7) (blk_below b28_4 hW) Tryz.underlying43 rfl (by kernel_rfl) rfl,
    fun f s W hW hd hs hz ac hac => opv rfl rfl (by simp [go_sem, hac.e 18 k28_18]) rfl,
    fun f s W hW hd hs hz ac hac => opv rfl rfl (by simp [go_sem, hac.e 18 k28_18]) rfl,
    fun f s W hW hd hs hz ac hac => opc rfl rfl (by simp [go_sem, hac.e 250 (hd 3 rfl), hac.e 251 (hd 4 rfl)]) (span_any (q1 - 1) (q1 - 1) W),
    fun f s W hW hd hs hz ac hac => by obtain ⟨g217', c220', g218', c221', g219', c222', d1, ⟨q223', q225', q224'⟩, ⟨q226', q228', q227'⟩, ⟨q229', q231', q230'⟩⟩ := (hd 1 rfl); exact opDo_call (args := #[.agg #[.int .i64 b.tab, .slice (some ⟨g217', 0, none⟩) (b.panels.length) (c220'), .int .i64 b.height, .slice (some ⟨g218', 0, none⟩) (b.top.length) (c221'), .slice (some ⟨g219', 0, none⟩) (b.bottom.length) (c222'), .int .i64 b.slot, .bool b.isOpen], .agg #[.int .i64 vi.length.1, .int .i64 vi.length.2, .int .i64 vi.width.1, .int .i64 vi.width.2, .int .i64 vi.height.1, .int .i64 vi.height.2, .int .i64 vi.outer.1, .int .i64 vi.outer.2, .int .i64 vi.inner.1, .int .i64 vi.inner.2, .bool vi.isOpen], .agg #[.int .i64 (q1 - 1), .int .i64 (q1 - 1)]]) rfl rfl (by simp [go_sem, hac.e 248 d1, hac.e 249 (hd 2 rfl), hac.e 252 (hd 5 rfl)]) (close_ok vi (q1 - 1) (q1 - 1) W ⟨_, _, _, _, _, _, _, _, _, rfl, q223', q226', q229'⟩ hck hwi (by omega) (by omega) (by omega)) ((fun e W' h => by obtain ⟨x, e1, h1, h2⟩ := h; exact ⟨_, e1, h2, _, rfl, h1⟩)),
    fun f s W hW hd hs hz ac hac => opv (v := (f 6)) rfl rfl (by simp [go_sem, (hac.at' 253 rfl : ac.tmps[253]?.getD undef = f 6)] <;> rfl) (hd 6 rfl),
    fun f s W hW hd hs hz ac hac => by obtain ⟨x7_0, d7, p7_0⟩ := (hd 7 rfl); exact opv (v := x7_0) rfl rfl (by simp [go_sem, hac.e 246 d7]) p7_0,
    fun f s W hW hd hs hz ac hac => by obtain ⟨x7_0, d7, p7_0⟩ := (hd 7 rfl); exact opv rfl rfl (by simp [go_sem, hac.e 246 d7]) rfl,
    fun f s W hW hd hs hz ac hac => opv (v := (f 8)) rfl rfl (by simp [go_sem, (hac.at' 254 rfl : ac.tmps[254]?.getD undef = f 8)] <;> rfl) (hd 8 rfl),
    fun f s W hW hd hs hz ac hac => opv rfl rfl (by simp [go_sem, hac.e 255 (hd 9 rfl)]) rfl, trivial⟩ ?_
        intro f29 s29 W29 hB29
        have fB29 : Below w.heap.size w W29 := below_trans fB28 hB29.below
        have z29 : W28.heap.size ≤ W29.heap.size := hB29.below.size
        have b29_0 := blk_below b28_0 hB29.below
        have b29_1 := blk_below b28_1 hB29.below
        have b29_2 := blk_below b28_2 hB29.below
        have b29_3 := blk_below b28_3 hB29.below
        have b29_4 := blk_below b28_4 hB29.below
        have b29_5 := blk_below b28_5 hB29.below
        have q235' := (q213'.below hB29.below)
        have q236' := (q214'.below hB29.below)
        have q237' := (q215'.below hB29.below)
        have q238' := (q216'.below hB29.below (Nat.le_refl _))
        obtain ⟨a239', c240', r29_10, q241'⟩ := hB29.is 10
        have lim242' := Pp.lim q241'
        refine hK44 _ _ ?_
        generalize hg29 : ov [(247, 0), (248, 1), (249, 2), (250, 3), (251, 4), (252, 5), (253, 6), (246, 7), (254, 8), (255, 9), (19, 10), (20, 11)] f29 g28 = g29
        have k29_4 := kt hg29 4 k28_4
        have k29_5 := kt hg29 5 k28_5
        have k29_7 := kt hg29 7 k28_7
        have k29_10 := kt hg29 10 k28_10
        have k29_17 := kt hg29 17 k28_17
        have k29_228 := kt hg29 228 k28_228
        have k29_18 := kt hg29 18 k28_18
        have k29_245 := kt hg29 245 k28_245
        have k29_19 := kt hg29 19 r29_10
        have k29_20 := kt hg29 20 (hB29.is 11)
        refine wp_seq_k fun K45 hK45 => ?_
        as_aux_lemma =>
        refine region_do 7 [(256, 0), (257, 1), (258, 2), (259, 3), (260, 4), (261, 5), (262, 6)] [[], [0], [0, 1], [0, 1, 2], [0, 1, 2, 3], [0, 1, 2, 3, 4], [0, 1, 2, 3, 4, 5]] (rel [is (.int .i64 0),
      is (.bool false),
      is (.bool false),
      is (.slice (a239') ((closeL b vi (q1 - 1, q1 - 1)).length) (c240')),
      is (.int .i64 (((closeL b vi (q1 - 1, q1 - 1)).length : Int))),
      is (.bool false),
      is (.bool false)]) (by kernel_rfl) (by kernel_rfl) (by kernel_rfl) (by kernel_rfl)
          ⟨is_k, is_k, is_k, is_k, is_k, is_k, is_k, trivial⟩
          ⟨fun f s W hW hd hs hz ac hac => opv rfl rfl (by simp [go_sem, hac.e 20 k29_20]) rfl,
    fun f s W hW hd hs hz ac hac => opv rfl rfl (by simp [go_sem, hac.e 256 (hd 0 rfl)]) rfl,
    fun f s W hW hd hs hz ac hac => opv rfl rfl (by simp [go_sem, hac.e 257 (hd 1 rfl)]) rfl,
    fun f s W hW hd hs hz ac hac => osure rfl rfl (hac.says (d := 258) rfl rfl (hd 2 rfl)) (gv (by simp [go_sem, hac.e 19 k29_19]) rfl),
    fun f s W hW hd hs hz ac hac => osure rfl rfl (hac.says (d := 258) rfl rfl (hd 2 rfl)) (gv (by simp [go_sem, hac.e 259 (hd 3 rfl)]) rfl),
    fun f s W hW hd hs hz ac hac => osure rfl rfl (hac.says (d := 258) rfl rfl (hd 2 rfl)) (gv (by simp [go_sem, hac.e 260 (hd 4 rfl), hz1_]) rfl),
    fun f s W hW hd hs hz ac hac => opk (c := false) rfl rfl (fun _ => by simp [go_sem, hac.e 258 (hd 2 rfl), hac.e 261 (hd 5 rfl)]) (fun h => absurd h (by decide)), trivial⟩ ?_
        intro f30 s30 W30 hB30
        have fB30 : Below w.heap.size w W30 := below_trans fB29 hB30.below
        have z30 : W29.heap.size ≤ W30.heap.size := hB30.below.size
        have b30_0 := blk_below b29_0 hB30.below
        have b30_1 := blk_below b29_1 hB30.below
        have b30_2 := blk_below b29_2 hB30.below
        have b30_3 := blk_below b29_3 hB30.below
        have b30_4 := blk_below b29_4 hB30.below
        have b30_5 := blk_below b29_5 hB30.below
        have q243' := (q235'.below hB30.below)
        have q244' := (q236'.below hB30.below)
        have q245' := (q237'.below hB30.below)
        have q246' := (q238'.below hB30.below (Nat.le_refl _))
        have q247' := (q241'.below hB30.below (Nat.le_refl _))
        refine hK45 _ _ ?_
        generalize hg30 : ov [(256, 0), (257, 1), (258, 2), (259, 3), (260, 4), (261, 5), (262, 6)] f30 g29 = g30
        have k30_4 := kt hg30 4 k29_4
        have k30_5 := kt hg30 5 k29_5
        have k30_7 := kt hg30 7 k29_7
        have k30_10 := kt hg30 10 k29_10
        have k30_17 := kt hg30 17 k29_17
        have k30_228 := kt hg30 228 k29_228
        have k30_18 := kt hg30 18 k29_18
        have k30_245 := kt hg30 245 k29_245
        have k30_19 := kt hg30 19 k29_19
        have k30_20 := kt hg30 20 k29_20
        have k30_262 := kt hg30 262 (hB30.is 6)
        refine wp_cond_false ((fr_eval rfl).trans k30_262) ?_
        refine wp_skip ?_
        refine inBlock_normal ?_
        exact J208' _ _ ⟨k30_4, k30_5, k30_7, k30_10, k30_17, k30_228, fB30, (by omega), b30_0, b30_1, b30_2, b30_3, b30_4, b30_5, q243', q244', q245', q246'⟩
    rintro g_248 W_248 ⟨k_248_4, k_248_5, k_248_7, k_248_10, k_248_17, k_248_228, fB_248, z_248, b_248_0, b_248_1, b_248_2, b_248_3, b_248_4, b_248_5, q249', q250', q251', q252'⟩
    refine hK39 _ _ ?_
    as_aux_lemma =>
    refine region_do 3 [(229, 0), (230, 1), (17, 2)] [[], [0], [0, 1]] (rel [is (.int .i64 0),
      is (.int .i64 1),
      is (.int .i64 1)]) (by kernel_rfl) (by kernel_rfl) (by kernel_rfl) (by kernel_rfl)
      ⟨is_k, is_k, is_k, trivial⟩
      ⟨fun f s W hW hd hs hz ac hac => opv rfl rfl (by simp [go_sem, hac.e 17 ((hz 2 17 rfl rfl).trans k_248_17)]) rfl,
    fun f s W hW hd hs hz ac hac => opv rfl rfl (by simp [go_sem, hac.e 229 (hd 0 rfl), IntWalk.i64_in (1) (by omega)]) rfl,
    fun f s W hW hd hs hz ac hac => opv rfl rfl (by simp [go_sem, hac.e 230 (hd 1 rfl)]) rfl, trivial⟩ ?_
    intro f31 s31 W31 hB31
    have fB31 : Below w.heap.size w W31 := below_trans fB_248 hB31.below
    have z31 : W_248.heap.size ≤ W31.heap.size := hB31.below.size
    have b31_0 := blk_below b_248_0 hB31.below
    have b31_1 := blk_below b_248_1 hB31.below
    have b31_2 := blk_below b_248_2 hB31.below
    have b31_3 := blk_below b_248_3 hB31.below
    have b31_4 := blk_below b_248_4 hB31.below
    have b31_5 := blk_below b_248_5 hB31.below
    have q253' := (q249'.below hB31.below)
    have q254' := (q250'.below hB31.below)
    have q255' := (q251'.below hB31.below)
    have q256' := (q252'.below hB31.below (Nat.le_refl _))
    refine wpOps_end ?_
    generalize hg31 : ov [(229, 0), (230, 1), (17, 2)] f31 g_248 = g31
    have k31_4 := kt hg31 4 k_248_4
    have k31_5 := kt hg31 5 k_248_5
    have k31_7 := kt hg31 7 k_248_7
    have k31_10 := kt hg31 10 k_248_10
    have k31_228 := kt hg31 228 k_248_228
    have k31_17 := kt hg31 17 (hB31.is 2)
    refine then_normal ?_
    rw [rounds_succ]
    refine wp_seq_k fun K47 hK47 => ?_
    refine wp_seq_k fun K48 hK48 => ?_
    as_aux_lemma =>
    refine region_do 2 [(227, 0), (228, 1)] [[], [0]] (rel [is (.int .i64 1),
      is (.bool true)]) (by kernel_rfl) (by kernel_rfl) (by kernel_rfl) (by kernel_rfl)
      ⟨is_k, is_k, trivial⟩
      ⟨fun f s W hW hd hs hz ac hac => opv rfl rfl (by simp [go_sem, hac.e 17 k31_17]) rfl,
    fun f s W hW hd hs hz ac hac => opv rfl rfl (by simp [go_sem, hac.e 227 (hd 0 rfl)]) rfl, trivial⟩ ?_
    intro f32 s32 W32 hB32
    have fB32 : Below w.heap.size w W32 := below_trans fB31 hB32.below
    have z32 : W31.heap.size ≤ W32.heap.size := hB32.below.size
    have b32_0 := blk_below b31_0 hB32.below
    have b32_1 := blk_below b31_1 hB32.below
    have b32_2 := blk_below b31_2 hB32.below
    have b32_3 := blk_below b31_3 hB32.below
    have b32_4 := blk_below b31_4 hB32.below
    have b32_5 := blk_below b31_5 hB32.below
    have q257' := (q253'.below hB32.below)
    have q258' := (q254'.below hB32.below)
    have q259' := (q255'.below hB32.below)
    have q260' := (q256'.below hB32.below (Nat.le_refl _))
    refine hK48 _ _ ?_
    generalize hg32 : ov [(227, 0), (228, 1)] f32 g31 = g32
    have k32_4 := kt hg32 4 k31_4
    have k32_5 := kt hg32 5 k31_5
    have k32_7 := kt hg32 7 k31_7
    have k32_10 := kt hg32 10 k31_10
    have k32_17 := kt hg32 17 k31_17
    have k32_228 := kt hg32 228 (hB32.is 1)
    refine wp_cond_true ((fr_eval rfl).trans k32_228) ?_
    refine wp_skip ?_
    refine hK47 _ _ ?_
    refine wp_seq_k fun K50 hK50 => ?_
    suffices J261' : ∀ (g_ : Nat → Value) (W_ : World), (g_ 4 = .bool false ∧ g_ 5 = .pointer (some ⟨bk1, 0, none⟩) ∧ g_ 7 = .pointer (some ⟨bk4, 0, none⟩) ∧ g_ 10 = .pointer (some ⟨bk5, 0, none⟩) ∧ g_ 17 = .int .i64 1 ∧ g_ 228 = .bool true ∧ Below w.heap.size w W_ ∧ W32.heap.size ≤ W_.heap.size ∧ W_.heap[bk3]? = some (.cells #[.int .u8 x.x0, .int .u8 x.x1, .int .u8 x.x2, .int .u8 x.x3, .int .u8 x.xh, .int .u8 x.y0, .int .u8 x.y1, .int .u8 x.y2, .int .u8 x.y3, .bool x.xo, .int .u8 x.ca, .int .u8 x.cb, .int .u8 x.v0, .int .u8 x.v1, .int .u8 x.v2, .int .u8 x.v3, .int .u8 x.v4] 72 (0, 0)) ∧ W_.heap[bk0]? = some (.cells #[.int .u8 y.x0, .int .u8 y.x1, .int .u8 y.x2, .int .u8 y.x3, .int .u8 y.xh, .int .u8 y.y0, .int .u8 y.y1, .int .u8 y.y2, .int .u8 y.y3, .bool y.xo, .int .u8 y.ca, .int .u8 y.cb, .int .u8 y.v0, .int .u8 y.v1, .int .u8 y.v2, .int .u8 y.v3, .int .u8 y.v4] 72 (0, 0)) ∧ W_.heap[bk1]? = some (.cells #[.int .i64 b.tab, .slice (some ⟨g1', 0, none⟩) (b.panels.length) (c4'), .int .i64 b.height, .slice (some ⟨g2', 0, none⟩) (b.top.length) (c5'), .slice (some ⟨g3', 0, none⟩) (b.bottom.length) (c6'), .int .i64 b.slot, .bool b.isOpen] 24 (0, 0)) ∧ W_.heap[bk2]? = some (.cells #[.int .i64 lo, .int .i64 hi] 26 (0, 0)) ∧ W_.heap[bk4]? = some (.cells #[.int .i64 vi.length.1, .int .i64 vi.length.2, .int .i64 vi.width.1, .int .i64 vi.width.2, .int .i64 vi.height.1, .int .i64 vi.height.2, .int .i64 vi.outer.1, .int .i64 vi.outer.2, .int .i64 vi.inner.1, .int .i64 vi.inner.2, .bool vi.isOpen] 43 (0, 0)) ∧ W_.heap[bk5]? = some (.cells #[.int .i64 q1, .int .i64 q2] 26 (0, 0)) ∧ OwnI 0 b.panels g1' c4' W_ ∧ OwnI 0 b.top g2' c5' W_ ∧ OwnI 0 b.bottom g3' c6' W_ ∧ Pp W_ a61' L.length c62' L) → K50 (fr 281 g_) W_ by
      refine wp_block ?_
      refine wp_seq_k fun K51 hK51 => ?_
      as_aux_lemma =>
      refine region_do 10 [(231, 0), (232, 1), (233, 2), (234, 3), (235, 4), (236, 5), (237, 6), (238, 7), (239, 8), (18, 9)] [[], [0], [0, 1], [], [3], [3, 4], [0, 1, 2, 3, 4, 5], [], [0, 1, 2, 3, 4, 5, 6, 7], [0, 1, 2, 3, 4, 5, 6, 7, 8]] (rel [is (.pointer (some ⟨bk5, 0, none⟩)),
      is (.int .i64 q1),
      is (.int .i64 (q1 - 1)),
      is (.pointer (some ⟨bk5, 1, none⟩)),
      is (.int .i64 q2),
      is (.int .i64 (q2 + 1)),
      is (.agg #[.int .i64 (q1 - 1), .int .i64 (q2 + 1)]),
      is (.int .i64 1),
      is (.int .i64 (q2 + 1)),
      is (.int .i64 (q2 + 1))]) (by kernel_rfl) (by kernel_rfl) (by kernel_rfl) (by kernel_rfl)
        ⟨is_k, is_k, is_k, is_k, is_k, is_k, is_k, is_k, is_k, is_k, trivial⟩
        ⟨fun f s W hW hd hs hz ac hac => opv rfl rfl (by simp [go_sem, hac.e 10 k32_10]) rfl,
    fun f s W hW hd hs hz ac hac => opv rfl rfl (by simp [go_sem, hac.e 231 (hd 0 rfl), Joins.cell_of_block (blk_below b32_5 hW) 0]) rfl,
    fun f s W hW hd hs hz ac hac => opv rfl rfl (by simp [go_sem, hac.e 232 (hd 1 rfl), IntWalk.i64_in (q1 - 1) (by omega)]) rfl,
    fun f s W hW hd hs hz ac hac => opv rfl rfl (by simp [go_sem, hac.e 10 k32_10]) rfl,
    fun f s W hW hd hs hz ac hac => opv rfl rfl (by simp [go_sem, hac.e 234 (hd 3 rfl), Joins.cell_of_block (blk_below b32_5 hW) 1]) rfl,
    fun f s W hW hd hs hz ac hac => opv rfl rfl (by simp [go_sem, hac.e 235 (hd 4 rfl), IntWalk.i64_in (q2 + 1) (by omega)]) rfl,
    fun f s W hW hd hs hz ac hac => opv rfl rfl (by simp [go_sem, hac.e 233 (hd 2 rfl), hac.e 236 (hd 5 rfl)]) rfl,
    fun f s W hW hd hs hz ac hac => opv rfl rfl (by simp [go_sem, hac.e 17 k32_17]) rfl,
    fun f s W hW hd hs hz ac hac => by have ix_ : ∀ W : World, (Instr.index 40 (.agg #[.int .i64 (q1 - 1), .int .i64 (q2 + 1)]) (.int .i64 1)).run Tryz.prog W = .ok (.int .i64 (q2 + 1)) W := fun W => (by kernel_rfl); exact opv rfl rfl (by simp [go_sem, hac.e 237 (hd 6 rfl), hac.e 238 (hd 7 rfl), ix_]) rfl,
    fun f s W hW hd hs hz ac hac => opv rfl rfl (by simp [go_sem, hac.e 239 (hd 8 rfl)]) rfl, trivial⟩ ?_
      intro f33 s33 W33 hB33
      have fB33 : Below w.heap.size w W33 := below_trans fB32 hB33.below
      have z33 : W32.heap.size ≤ W33.heap.size := hB33.below.size
      have b33_0 := blk_below b32_0 hB33.below
      have b33_1 := blk_below b32_1 hB33.below
      have b33_2 := blk_below b32_2 hB33.below
      have b33_3 := blk_below b32_3 hB33.below
      have b33_4 := blk_below b32_4 hB33.below
      have b33_5 := blk_below b32_5 hB33.below
      have q262' := (q257'.below hB33.below)
      have q263' := (q258'.below hB33.below)
      have q264' := (q259'.below hB33.below)
      have q265' := (q260'.below hB33.below (Nat.le_refl _))
      refine hK51 _ _ ?_
      generalize hg33 : ov [(231, 0), (232, 1), (233, 2), (234, 3), (235, 4), (236, 5), (237, 6), (238, 7), (239, 8), (18, 9)] f33 g32 = g33
      have k33_4 := kt hg33 4 k32_4
      have k33_5 := kt hg33 5 k32_5
      have k33_7 := kt hg33 7 k32_7
      have k33_10 := kt hg33 10 k32_10
      have k33_17 := kt hg33 17 k32_17
      have k33_228 := kt hg33 228 k32_228
      have k33_18 := kt hg33 18 (hB33.is 9)
      refine wp_seq_k fun K52 hK52 => ?_
      refine wp_seq_k fun K53 hK53 => ?_
      as_aux_lemma =>
      refine region_do 6 [(240, 0), (241, 1), (242, 2), (243, 3), (244, 4), (245, 5)] [[], [0], [0, 1], [0, 1, 2], [0, 1, 2, 3], [0, 1, 2, 3, 4]] (rel [is (.int .i64 (q2 + 1)),
      is (.bool (decide ((q2 + 1) < 1))),
      is (.bool (decide ((q2 + 1) < 1))),
      gd (decide ((q2 + 1) < 1)) false (is (.int .i64 (q2 + 1))),
      gd (decide ((q2 + 1) < 1)) false (is (.bool (decide (10000 < (q2 + 1))))),
      is (.bool ((decide ((q2 + 1) < 1)) || (decide (10000 < (q2 + 1)))))]) (by kernel_rfl) (by kernel_rfl) (by kernel_rfl) (by kernel_rfl)
        ⟨is_k, is_k, is_k, gd_k (is_k), gd_k (is_k), is_k, trivial⟩
        ⟨fun f s W hW hd hs hz ac hac => opv rfl rfl (by simp [go_sem, hac.e 18 k33_18]) rfl,
    fun f s W hW hd hs hz ac hac => opv rfl rfl (by simp [go_sem, hac.e 240 (hd 0 rfl)]) rfl,
    fun f s W hW hd hs hz ac hac => opv rfl rfl (by simp [go_sem, hac.e 241 (hd 1 rfl)]) rfl,
    fun f s W hW hd hs hz ac hac => gdo rfl rfl (hac.says (d := 242) rfl rfl (hd 2 rfl)) fun hgd0 => gv (by simp [go_sem, hac.e 18 k33_18]) rfl,
    fun f s W hW hd hs hz ac hac => gdo rfl rfl (hac.says (d := 242) rfl rfl (hd 2 rfl)) fun hgd0 => gv (by simp [go_sem, hac.e 243 ((hd 3 rfl).1 hgd0)]) rfl,
    fun f s W hW hd hs hz ac hac => opk (c := decide ((q2 + 1) < 1)) rfl rfl (fun hpk => by first | (simp [go_sem, hpk, hac.e 242 (hd 2 rfl), hac.e 244 ((hd 4 rfl).1 hpk)]; done) | (have hpk' := hpk; simp at hpk'; simp [go_sem, hpk', hpk, hac.e 242 (hd 2 rfl), hac.e 244 ((hd 4 rfl).1 hpk)])) (fun hpk => by first | (simp [go_sem, hpk, hac.e 242 (hd 2 rfl)]; done) | (have hpk' := hpk; simp at hpk'; simp [go_sem, hpk', hpk, hac.e 242 (hd 2 rfl)])), trivial⟩ ?_
      intro f34 s34 W34 hB34
      have fB34 : Below w.heap.size w W34 := below_trans fB33 hB34.below
      have z34 : W33.heap.size ≤ W34.heap.size := hB34.below.size
      have b34_0 := blk_below b33_0 hB34.below
      have b34_1 := blk_below b33_1 hB34.below
      have b34_2 := blk_below b33_2 hB34.below
      have b34_3 := blk_below b33_3 hB34.below
      have b34_4 := blk_below b33_4 hB34.below
      have b34_5 := blk_below b33_5 hB34.below
      have q266' := (q262'.below hB34.below)
      have q267' := (q263'.below hB34.below)
      have q268' := (q264'.below hB34.below)
      have q269' := (q265'.below hB34.below (Nat.le_refl _))
      refine hK53 _ _ ?_
      generalize hg34 : ov [(240, 0), (241, 1), (242, 2), (243, 3), (244, 4), (245, 5)] f34 g33 = g34
      have k34_4 := kt hg34 4 k33_4
      have k34_5 := kt hg34 5 k33_5
      have k34_7 := kt hg34 7 k33_7
      have k34_10 := kt hg34 10 k33_10
      have k34_17 := kt hg34 17 k33_17
      have k34_228 := kt hg34 228 k33_228
      have k34_18 := kt hg34 18 k33_18
      have k34_245 := kt hg34 245 (hB34.is 5)
      refine wp_cond_split (t := (decide ((q2 + 1) < 1)) || (decide (10000 < (q2 + 1)))) ((fr_eval rfl).trans k34_245) (fun hc54 => ?_) (fun hc54 => ?_)
      ·
        have hc54' := hc54; try simp only [decide_eq_true_eq, decide_eq_false_iff_not, Bool.and_eq_true, Bool.or_eq_true, Bool.and_eq_false_iff, Bool.or_eq_false_iff, beq_iff_eq, bne_iff_ne, Bool.not_eq_true', Bool.not_eq_false', ne_eq, bne_eq_false_iff_eq, beq_eq_false_iff_ne] at hc54'
        refine wp_exit ?_
        refine then_exit ?_
        refine inBlock_at ?_
        exact J261' _ _ ⟨k34_4, k34_5, k34_7, k34_10, k34_17, k34_228, fB34, (by omega), b34_0, b34_1, b34_2, b34_3, b34_4, b34_5, q266', q267', q268', q269'⟩
      ·
        have hc54' := hc54; try simp only [decide_eq_true_eq, decide_eq_false_iff_not, Bool.and_eq_true, Bool.or_eq_true, Bool.and_eq_false_iff, Bool.or_eq_false_iff, beq_iff_eq, bne_iff_ne, Bool.not_eq_true', Bool.not_eq_false', ne_eq, bne_eq_false_iff_eq, beq_eq_false_iff_ne] at hc54'
        have hat_ : 1 ≤ (q2 + 1) ∧ (q2 + 1) ≤ 10000 := by simpa using hc54
        have hz2_ := hcs2 hF0 hat_
        refine wp_skip ?_
        refine hK52 _ _ ?_
        refine wp_seq_k fun K55 hK55 => ?_
        as_aux_lemma =>
        refine region_do 12 [(247, 0), (248, 1), (249, 2), (250, 3), (251, 4), (252, 5), (253, 6), (246, 7), (254, 8), (255, 9), (19, 10), (20, 11)] [[], [0], [], [], [], [0, 1, 3, 4], [0, 1, 2, 3, 4, 5], [0, 1, 2, 3, 4, 5, 6], [0, 1, 2, 3, 4, 5, 6, 7], [0, 1, 2, 3, 4, 5, 6, 7], [0, 1, 2, 3, 4, 5, 6, 7, 8], [0, 1, 2, 3, 4, 5, 6, 7, 8, 9, 10]] (rel [is (.agg #[.int .i64 b.tab, .slice (some ⟨g1', 0, none⟩) (b.panels.length) (c4'), .int .i64 b.height, .slice (some ⟨g2', 0, none⟩) (b.top.length) (c5'), .slice (some ⟨g3', 0, none⟩) (b.bottom.length) (c6'), .int .i64 b.slot, .bool b.isOpen]),
      fun v s W => NwBlk (s 1) (b) v W,
      is (.agg #[.int .i64 vi.length.1, .int .i64 vi.length.2, .int .i64 vi.width.1, .int .i64 vi.width.2, .int .i64 vi.height.1, .int .i64 vi.height.2, .int .i64 vi.outer.1, .int .i64 vi.outer.2, .int .i64 vi.inner.1, .int .i64 vi.inner.2, .bool vi.isOpen]),
      is (.int .i64 (q2 + 1)),
      is (.int .i64 (q2 + 1)),
      is (.agg #[.int .i64 (q2 + 1), .int .i64 (q2 + 1)]),
      ab fun v W => ∃ x0, v = .tuple #[x0, .int .i64 0] ∧ IsPp (closeL b vi (q2 + 1, q2 + 1)) x0 W,
      ab fun v W => ∃ x0, v = .tuple #[x0, .int .i64 0] ∧ IsPp (closeL b vi (q2 + 1, q2 + 1)) x0 W,
      ab fun v W => IsPp (closeL b vi (q2 + 1, q2 + 1)) v W,
      is (.int .i64 0),
      ab fun v W => IsPp (closeL b vi (q2 + 1, q2 + 1)) v W,
      is (.int .i64 0)]) (by kernel_rfl) (by kernel_rfl) (by kernel_rfl) (by kernel_rfl)
          ⟨is_k, ⟨fun v k W W' hb h => h.below hb, fun v s s' W e h => by have h' : NwBlk (s 1) (b) v W := h; show NwBlk (s' 1) (b) v W; rw [← e 1 (by simp)]; exact h'⟩, is_k, is_k, is_k, is_k, ab_k fun v W W' hb ⟨x0, e, h0⟩ => ⟨x0, e, h0.below hb⟩, ab_k fun v W W' hb ⟨x0, e, h0⟩ => ⟨x0, e, h0.below hb⟩, ab_k fun v W W' hb h => h.below hb, is_k, ab_k fun v W W' hb h => h.below hb, is_k, trivial⟩
          ⟨fun f s W hW hd hs hz ac hac => opl rfl rfl rfl (hac.v 5 k34_5) (blk_below b34_2 hW) Tryz.underlying24 rfl (by kernel_rfl) rfl,
    fun f s W hW hd hs hz ac hac => opDo_call (args := #[.agg #[.int .i64 b.tab, .slice (some ⟨g1', 0, none⟩) (b.panels.length) (c4'), .int .i64 b.height, .slice (some ⟨g2', 0, none⟩) (b.top.length) (c5'), .slice (some ⟨g3', 0, none⟩) (b.bottom.length) (c6'), .int .i64 b.slot, .bool b.isOpen]]) rfl rfl (by simp [go_sem, hac.e 247 (hd 0 rfl)]) (own_any _ _ _ _ _ _ b W ((q266'.below hW)).ii ((q267'.below hW)).ii ((q268'.below hW)).ii n1 n2 n3) (fun e W' h => by obtain ⟨v, e1, h1, h2⟩ := h; exact ⟨v, e1, h2, (show NwBlk (upd s 1 W.heap.size 1) (b) v W' from by rw [upd_at]; exact h1)⟩),
    fun f s W hW hd hs hz ac hac => opl rfl rfl rfl (hac.v 7 k34_7) (blk_below b34_4 hW) Tryz.underlying43 rfl (by kernel_rfl) rfl,
    fun f s W hW hd hs hz ac hac => opv rfl rfl (by simp [go_sem, hac.e 18 k34_18]) rfl,
    fun f s W hW hd hs hz ac hac => opv rfl rfl (by simp [go_sem, hac.e 18 k34_18]) rfl,
    fun f s W hW hd hs hz ac hac => opc rfl rfl (by simp [go_sem, hac.e 250 (hd 3 rfl), hac.e 251 (hd 4 rfl)]) (span_any (q2 + 1) (q2 + 1) W),
    fun f s W hW hd hs hz ac hac => by obtain ⟨g270', c273', g271', c274', g272', c275', d1, ⟨q276', q278', q277'⟩, ⟨q279', q281', q280'⟩, ⟨q282', q284', q283'⟩⟩ := (hd 1 rfl); exact opDo_call (args := #[.agg #[.int .i64 b.tab, .slice (some ⟨g270', 0, none⟩) (b.panels.length) (c273'), .int .i64 b.height, .slice (some ⟨g271', 0, none⟩) (b.top.length) (c274'), .slice (some ⟨g272', 0, none⟩) (b.bottom.length) (c275'), .int .i64 b.slot, .bool b.isOpen], .agg #[.int .i64 vi.length.1, .int .i64 vi.length.2, .int .i64 vi.width.1, .int .i64 vi.width.2, .int .i64 vi.height.1, .int .i64 vi.height.2, .int .i64 vi.outer.1, .int .i64 vi.outer.2, .int .i64 vi.inner.1, .int .i64 vi.inner.2, .bool vi.isOpen], .agg #[.int .i64 (q2 + 1), .int .i64 (q2 + 1)]]) rfl rfl (by simp [go_sem, hac.e 248 d1, hac.e 249 (hd 2 rfl), hac.e 252 (hd 5 rfl)]) (close_ok vi (q2 + 1) (q2 + 1) W ⟨_, _, _, _, _, _, _, _, _, rfl, q276', q279', q282'⟩ hck hwi (by omega) (by omega) (by omega)) ((fun e W' h => by obtain ⟨x, e1, h1, h2⟩ := h; exact ⟨_, e1, h2, _, rfl, h1⟩)),
    fun f s W hW hd hs hz ac hac => opv (v := (f 6)) rfl rfl (by simp [go_sem, (hac.at' 253 rfl : ac.tmps[253]?.getD undef = f 6)] <;> rfl) (hd 6 rfl),
    fun f s W hW hd hs hz ac hac => by obtain ⟨x7_0, d7, p7_0⟩ := (hd 7 rfl); exact opv (v := x7_0) rfl rfl (by simp [go_sem, hac.e 246 d7]) p7_0,
    fun f s W hW hd hs hz ac hac => by obtain ⟨x7_0, d7, p7_0⟩ := (hd 7 rfl); exact opv rfl rfl (by simp [go_sem, hac.e 246 d7]) rfl,
    fun f s W hW hd hs hz ac hac => opv (v := (f 8)) rfl rfl (by simp [go_sem, (hac.at' 254 rfl : ac.tmps[254]?.getD undef = f 8)] <;> rfl) (hd 8 rfl),
    fun f s W hW hd hs hz ac hac => opv rfl rfl (by simp [go_sem, hac.e 255 (hd 9 rfl)]) rfl, trivial⟩ ?_
        intro f35 s35 W35 hB35
        have fB35 : Below w.heap.size w W35 := below_trans fB34 hB35.below
        have z35 : W34.heap.size ≤ W35.heap.size := hB35.below.size
        have b35_0 := blk_below b34_0 hB35.below
        have b35_1 := blk_below b34_1 hB35.below
        have b35_2 := blk_below b34_2 hB35.below
        have b35_3 := blk_below b34_3 hB35.below
        have b35_4 := blk_below b34_4 hB35.below
        have b35_5 := blk_below b34_5 hB35.below
        have q288' := (q266'.below hB35.below)
        have q289' := (q267'.below hB35.below)
        have q290' := (q268'.below hB35.below)
        have q291' := (q269'.below hB35.below (Nat.le_refl _))
        obtain ⟨a292', c293', r35_10, q294'⟩ := hB35.is 10
        have lim295' := Pp.lim q294'
        refine hK55 _ _ ?_
        generalize hg35 : ov [(247, 0), (248, 1), (249, 2), (250, 3), (251, 4), (252, 5), (253, 6), (246, 7), (254, 8), (255, 9), (19, 10), (20, 11)] f35 g34 = g35
        have k35_4 := kt hg35 4 k34_4
        have k35_5 := kt hg35 5 k34_5
        have k35_7 := kt hg35 7 k34_7
        have k35_10 := kt hg35 10 k34_10
        have k35_17 := kt hg35 17 k34_17
        have k35_228 := kt hg35 228 k34_228
        have k35_18 := kt hg35 18 k34_18
        have k35_245 := kt hg35 245 k34_245
        have k35_19 := kt hg35 19 r35_10
        have k35_20 := kt hg35 20 (hB35.is 11)
        refine wp_seq_k fun K56 hK56 => ?_
        as_aux_lemma =>
        refine region_do 7 [(256, 0), (257, 1), (258, 2), (259, 3), (260, 4), (261, 5), (262, 6)] [[], [0], [0, 1], [0, 1, 2], [0, 1, 2, 3], [0, 1, 2, 3, 4], [0, 1, 2, 3, 4, 5]] (rel [is (.int .i64 0),
      is (.bool false),
      is (.bool false),
      is (.slice (a292') ((closeL b vi (q2 + 1, q2 + 1)).length) (c293')),
      is (.int .i64 (((closeL b vi (q2 + 1, q2 + 1)).length : Int))),
      is (.bool false),
      is (.bool false)]) (by kernel_rfl) (by kernel_rfl) (by kernel_rfl) (by kernel_rfl)
          ⟨is_k, is_k, is_k, is_k, is_k, is_k, is_k, trivial⟩
          ⟨fun f s W hW hd hs hz ac hac => opv rfl rfl (by simp [go_sem, hac.e 20 k35_20]) rfl,
    fun f s W hW hd hs hz ac hac => opv rfl rfl (by simp [go_sem, hac.e 256 (hd 0 rfl)]) rfl,
    fun f s W hW hd hs hz ac hac => opv rfl rfl (by simp [go_sem, hac.e 257 (hd 1 rfl)]) rfl,
    fun f s W hW hd hs hz ac hac => osure rfl rfl (hac.says (d := 258) rfl rfl (hd 2 rfl)) (gv (by simp [go_sem, hac.e 19 k35_19]) rfl),
    fun f s W hW hd hs hz ac hac => osure rfl rfl (hac.says (d := 258) rfl rfl (hd 2 rfl)) (gv (by simp [go_sem, hac.e 259 (hd 3 rfl)]) rfl),
    fun f s W hW hd hs hz ac hac => osure rfl rfl (hac.says (d := 258) rfl rfl (hd 2 rfl)) (gv (by simp [go_sem, hac.e 260 (hd 4 rfl), hz2_]) rfl),
    fun f s W hW hd hs hz ac hac => opk (c := false) rfl rfl (fun _ => by simp [go_sem, hac.e 258 (hd 2 rfl), hac.e 261 (hd 5 rfl)]) (fun h => absurd h (by decide)), trivial⟩ ?_
        intro f36 s36 W36 hB36
        have fB36 : Below w.heap.size w W36 := below_trans fB35 hB36.below
        have z36 : W35.heap.size ≤ W36.heap.size := hB36.below.size
        have b36_0 := blk_below b35_0 hB36.below
        have b36_1 := blk_below b35_1 hB36.below
        have b36_2 := blk_below b35_2 hB36.below
        have b36_3 := blk_below b35_3 hB36.below
        have b36_4 := blk_below b35_4 hB36.below
        have b36_5 := blk_below b35_5 hB36.below
        have q296' := (q288'.below hB36.below)
        have q297' := (q289'.below hB36.below)
        have q298' := (q290'.below hB36.below)
        have q299' := (q291'.below hB36.below (Nat.le_refl _))
        have q300' := (q294'.below hB36.below (Nat.le_refl _))
        refine hK56 _ _ ?_
        generalize hg36 : ov [(256, 0), (257, 1), (258, 2), (259, 3), (260, 4), (261, 5), (262, 6)] f36 g35 = g36
        have k36_4 := kt hg36 4 k35_4
        have k36_5 := kt hg36 5 k35_5
        have k36_7 := kt hg36 7 k35_7
        have k36_10 := kt hg36 10 k35_10
        have k36_17 := kt hg36 17 k35_17
        have k36_228 := kt hg36 228 k35_228
        have k36_18 := kt hg36 18 k35_18
        have k36_245 := kt hg36 245 k35_245
        have k36_19 := kt hg36 19 k35_19
        have k36_20 := kt hg36 20 k35_20
        have k36_262 := kt hg36 262 (hB36.is 6)
        refine wp_cond_false ((fr_eval rfl).trans k36_262) ?_
        refine wp_skip ?_
        refine inBlock_normal ?_
        exact J261' _ _ ⟨k36_4, k36_5, k36_7, k36_10, k36_17, k36_228, fB36, (by omega), b36_0, b36_1, b36_2, b36_3, b36_4, b36_5, q296', q297', q298', q299'⟩
    rintro g_301 W_301 ⟨k_301_4, k_301_5, k_301_7, k_301_10, k_301_17, k_301_228, fB_301, z_301, b_301_0, b_301_1, b_301_2, b_301_3, b_301_4, b_301_5, q302', q303', q304', q305'⟩
    refine hK50 _ _ ?_
    as_aux_lemma =>
    refine region_do 3 [(229, 0), (230, 1), (17, 2)] [[], [0], [0, 1]] (rel [is (.int .i64 1),
      is (.int .i64 2),
      is (.int .i64 2)]) (by kernel_rfl) (by kernel_rfl) (by kernel_rfl) (by kernel_rfl)
      ⟨is_k, is_k, is_k, trivial⟩
      ⟨fun f s W hW hd hs hz ac hac => opv rfl rfl (by simp [go_sem, hac.e 17 ((hz 2 17 rfl rfl).trans k_301_17)]) rfl,
    fun f s W hW hd hs hz ac hac => opv rfl rfl (by simp [go_sem, hac.e 229 (hd 0 rfl), IntWalk.i64_in (2) (by omega)]) rfl,
    fun f s W hW hd hs hz ac hac => opv rfl rfl (by simp [go_sem, hac.e 230 (hd 1 rfl)]) rfl, trivial⟩ ?_
    intro f37 s37 W37 hB37
    have fB37 : Below w.heap.size w W37 := below_trans fB_301 hB37.below
    have z37 : W_301.heap.size ≤ W37.heap.size := hB37.below.size
    have b37_0 := blk_below b_301_0 hB37.below
    have b37_1 := blk_below b_301_1 hB37.below
    have b37_2 := blk_below b_301_2 hB37.below
    have b37_3 := blk_below b_301_3 hB37.below
    have b37_4 := blk_below b_301_4 hB37.below
    have b37_5 := blk_below b_301_5 hB37.below
    have q306' := (q302'.below hB37.below)
    have q307' := (q303'.below hB37.below)
    have q308' := (q304'.below hB37.below)
    have q309' := (q305'.below hB37.below (Nat.le_refl _))
    refine wpOps_end ?_
    generalize hg37 : ov [(229, 0), (230, 1), (17, 2)] f37 g_301 = g37
    have k37_4 := kt hg37 4 k_301_4
    have k37_5 := kt hg37 5 k_301_5
    have k37_7 := kt hg37 7 k_301_7
    have k37_10 := kt hg37 10 k_301_10
    have k37_228 := kt hg37 228 k_301_228
    have k37_17 := kt hg37 17 (hB37.is 2)
    refine then_normal ?_
    rw [rounds_succ]
    refine wp_seq_k fun K58 hK58 => ?_
    refine wp_seq_k fun K59 hK59 => ?_
    as_aux_lemma =>
    refine region_do 2 [(227, 0), (228, 1)] [[], [0]] (rel [is (.int .i64 2),
      is (.bool false)]) (by kernel_rfl) (by kernel_rfl) (by kernel_rfl) (by kernel_rfl)
      ⟨is_k, is_k, trivial⟩
      ⟨fun f s W hW hd hs hz ac hac => opv rfl rfl (by simp [go_sem, hac.e 17 k37_17]) rfl,
    fun f s W hW hd hs hz ac hac => opv rfl rfl (by simp [go_sem, hac.e 227 (hd 0 rfl)]) rfl, trivial⟩ ?_
    intro f38 s38 W38 hB38
    have fB38 : Below w.heap.size w W38 := below_trans fB37 hB38.below
    have z38 : W37.heap.size ≤ W38.heap.size := hB38.below.size
    have b38_0 := blk_below b37_0 hB38.below
    have b38_1 := blk_below b37_1 hB38.below
    have b38_2 := blk_below b37_2 hB38.below
    have b38_3 := blk_below b37_3 hB38.below
    have b38_4 := blk_below b37_4 hB38.below
    have b38_5 := blk_below b37_5 hB38.below
    have q310' := (q306'.below hB38.below)
    have q311' := (q307'.below hB38.below)
    have q312' := (q308'.below hB38.below)
    have q313' := (q309'.below hB38.below (Nat.le_refl _))
    refine hK59 _ _ ?_
    generalize hg38 : ov [(227, 0), (228, 1)] f38 g37 = g38
    have k38_4 := kt hg38 4 k37_4
    have k38_5 := kt hg38 5 k37_5
    have k38_7 := kt hg38 7 k37_7
    have k38_10 := kt hg38 10 k37_10
    have k38_17 := kt hg38 17 k37_17
    have k38_228 := kt hg38 228 (hB38.is 1)
    refine wp_cond_false ((fr_eval rfl).trans k38_228) ?_
    refine wp_exit ?_
    refine then_exit ?_
    refine then_exit ?_
    refine inBlock_at ?_
    refine hK34 _ _ ?_
    refine wp_seq_k fun K61 hK61 => ?_
    as_aux_lemma =>
    refine region_do 10 [(264, 0), (265, 1), (266, 2), (267, 3), (268, 4), (263, 5), (269, 6), (270, 7), (21, 8), (22, 9)] [[], [0], [], [], [0, 1, 2, 3], [0, 1, 2, 3, 4], [0, 1, 2, 3, 4, 5], [0, 1, 2, 3, 4, 5], [0, 1, 2, 3, 4, 5, 6], [0, 1, 2, 3, 4, 5, 6, 7, 8]] (rel [is (.agg #[.int .i64 b.tab, .slice (some ⟨g1', 0, none⟩) (b.panels.length) (c4'), .int .i64 b.height, .slice (some ⟨g2', 0, none⟩) (b.top.length) (c5'), .slice (some ⟨g3', 0, none⟩) (b.bottom.length) (c6'), .int .i64 b.slot, .bool b.isOpen]),
      fun v s W => NwBlk (s 1) (b) v W,
      is (.agg #[.int .i64 vi.length.1, .int .i64 vi.length.2, .int .i64 vi.width.1, .int .i64 vi.width.2, .int .i64 vi.height.1, .int .i64 vi.height.2, .int .i64 vi.outer.1, .int .i64 vi.outer.2, .int .i64 vi.inner.1, .int .i64 vi.inner.2, .bool vi.isOpen]),
      is (.agg #[.int .i64 q1, .int .i64 q2]),
      ab fun v W => ∃ x0, v = .tuple #[x0, .int .i64 0] ∧ IsPp (closeL b vi (q1, q2)) x0 W,
      ab fun v W => ∃ x0, v = .tuple #[x0, .int .i64 0] ∧ IsPp (closeL b vi (q1, q2)) x0 W,
      ab fun v W => IsPp (closeL b vi (q1, q2)) v W,
      is (.int .i64 0),
      ab fun v W => IsPp (closeL b vi (q1, q2)) v W,
      is (.int .i64 0)]) (by kernel_rfl) (by kernel_rfl) (by kernel_rfl) (by kernel_rfl)
      ⟨is_k, ⟨fun v k W W' hb h => h.below hb, fun v s s' W e h => by have h' : NwBlk (s 1) (b) v W := h; show NwBlk (s' 1) (b) v W; rw [← e 1 (by simp)]; exact h'⟩, is_k, is_k, ab_k fun v W W' hb ⟨x0, e, h0⟩ => ⟨x0, e, h0.below hb⟩, ab_k fun v W W' hb ⟨x0, e, h0⟩ => ⟨x0, e, h0.below hb⟩, ab_k fun v W W' hb h => h.below hb, is_k, ab_k fun v W W' hb h => h.below hb, is_k, trivial⟩
      ⟨fun f s W hW hd hs hz ac hac => opl rfl rfl rfl (hac.v 5 k38_5) (blk_below b38_2 hW) Tryz.underlying24 rfl (by kernel_rfl) rfl,
    fun f s W hW hd hs hz ac hac => opDo_call (args := #[.agg #[.int .i64 b.tab, .slice (some ⟨g1', 0, none⟩) (b.panels.length) (c4'), .int .i64 b.height, .slice (some ⟨g2', 0, none⟩) (b.top.length) (c5'), .slice (some ⟨g3', 0, none⟩) (b.bottom.length) (c6'), .int .i64 b.slot, .bool b.isOpen]]) rfl rfl (by simp [go_sem, hac.e 264 (hd 0 rfl)]) (own_any _ _ _ _ _ _ b W ((q310'.below hW)).ii ((q311'.below hW)).ii ((q312'.below hW)).ii n1 n2 n3) (fun e W' h => by obtain ⟨v, e1, h1, h2⟩ := h; exact ⟨v, e1, h2, (show NwBlk (upd s 1 W.heap.size 1) (b) v W' from by rw [upd_at]; exact h1)⟩),
    fun f s W hW hd hs hz ac hac => opl rfl rfl rfl (hac.v 7 k38_7) (blk_below b38_4 hW) Tryz.underlying43 rfl (by kernel_rfl) rfl,
    fun f s W hW hd hs hz ac hac => opv rfl rfl (by simp [go_sem, hac.e 10 k38_10, Joins.cell_of_block (blk_below b38_5 hW) 0, Joins.cell_of_block (blk_below b38_5 hW) 1]) rfl,
    fun f s W hW hd hs hz ac hac => by obtain ⟨g314', c317', g315', c318', g316', c319', d1, ⟨q320', q322', q321'⟩, ⟨q323', q325', q324'⟩, ⟨q326', q328', q327'⟩⟩ := (hd 1 rfl); exact opDo_call (args := #[.agg #[.int .i64 b.tab, .slice (some ⟨g314', 0, none⟩) (b.panels.length) (c317'), .int .i64 b.height, .slice (some ⟨g315', 0, none⟩) (b.top.length) (c318'), .slice (some ⟨g316', 0, none⟩) (b.bottom.length) (c319'), .int .i64 b.slot, .bool b.isOpen], .agg #[.int .i64 vi.length.1, .int .i64 vi.length.2, .int .i64 vi.width.1, .int .i64 vi.width.2, .int .i64 vi.height.1, .int .i64 vi.height.2, .int .i64 vi.outer.1, .int .i64 vi.outer.2, .int .i64 vi.inner.1, .int .i64 vi.inner.2, .bool vi.isOpen], .agg #[.int .i64 q1, .int .i64 q2]]) rfl rfl (by simp [go_sem, hac.e 265 d1, hac.e 266 (hd 2 rfl), hac.e 267 (hd 3 rfl)]) (close_ok vi (q1) (q2) W ⟨_, _, _, _, _, _, _, _, _, rfl, q320', q323', q326'⟩ hck hwi (by omega) (by omega) (by omega)) ((fun e W' h => by obtain ⟨x, e1, h1, h2⟩ := h; exact ⟨_, e1, h2, _, rfl, h1⟩)),
    fun f s W hW hd hs hz ac hac => opv (v := (f 4)) rfl rfl (by simp [go_sem, (hac.at' 268 rfl : ac.tmps[268]?.getD undef = f 4)] <;> rfl) (hd 4 rfl),
    fun f s W hW hd hs hz ac hac => by obtain ⟨x5_0, d5, p5_0⟩ := (hd 5 rfl); exact opv (v := x5_0) rfl rfl (by simp [go_sem, hac.e 263 d5]) p5_0,
    fun f s W hW hd hs hz ac hac => by obtain ⟨x5_0, d5, p5_0⟩ := (hd 5 rfl); exact opv rfl rfl (by simp [go_sem, hac.e 263 d5]) rfl,
    fun f s W hW hd hs hz ac hac => opv (v := (f 6)) rfl rfl (by simp [go_sem, (hac.at' 269 rfl : ac.tmps[269]?.getD undef = f 6)] <;> rfl) (hd 6 rfl),
    fun f s W hW hd hs hz ac hac => opv rfl rfl (by simp [go_sem, hac.e 270 (hd 7 rfl)]) rfl, trivial⟩ ?_
    intro f39 s39 W39 hB39
    have fB39 : Below w.heap.size w W39 := below_trans fB38 hB39.below
    have z39 : W38.heap.size ≤ W39.heap.size := hB39.below.size
    have b39_0 := blk_below b38_0 hB39.below
    have b39_1 := blk_below b38_1 hB39.below
    have b39_2 := blk_below b38_2 hB39.below
    have b39_3 := blk_below b38_3 hB39.below
    have b39_4 := blk_below b38_4 hB39.below
    have b39_5 := blk_below b38_5 hB39.below
    have q332' := (q310'.below hB39.below)
    have q333' := (q311'.below hB39.below)
    have q334' := (q312'.below hB39.below)
    have q335' := (q313'.below hB39.below (Nat.le_refl _))
    obtain ⟨a336', c337', r39_8, q338'⟩ := hB39.is 8
    have lim339' := Pp.lim q338'
    refine hK61 _ _ ?_
    generalize hg39 : ov [(264, 0), (265, 1), (266, 2), (267, 3), (268, 4), (263, 5), (269, 6), (270, 7), (21, 8), (22, 9)] f39 g38 = g39
    have k39_4 := kt hg39 4 k38_4
    have k39_21 := kt hg39 21 r39_8
    have k39_22 := kt hg39 22 (hB39.is 9)
    refine wp_seq_k fun K62 hK62 => ?_
    as_aux_lemma =>
    refine region_do 11 [(271, 0), (272, 1), (273, 2), (274, 3), (275, 4), (276, 5), (277, 6), (278, 7), (279, 8), (280, 9), (4, 10)] [[], [0], [0, 1], [0, 1, 2], [0, 1, 2, 3], [0, 1, 2, 3, 4], [0, 1, 2, 3, 4, 5], [0, 1, 2, 3, 4, 5, 6], [0, 1, 2, 3, 4, 5, 6, 7], [0, 1, 2, 3, 4, 5, 6, 7, 8], [0, 1, 2, 3, 4, 5, 6, 7, 8, 9]] (rel [is (.int .i64 0),
      is (.bool true),
      is (.bool true),
      is (.slice (a336') ((closeL b vi (q1, q2)).length) (c337')),
      is (.int .i64 (((closeL b vi (q1, q2)).length : Int))),
      is (.bool true),
      is (.bool true),
      is (.bool true),
      is (.bool true),
      is (.bool true),
      is (.bool true)]) (by kernel_rfl) (by kernel_rfl) (by kernel_rfl) (by kernel_rfl)
      ⟨is_k, is_k, is_k, is_k, is_k, is_k, is_k, is_k, is_k, is_k, is_k, trivial⟩
      ⟨fun f s W hW hd hs hz ac hac => opv rfl rfl (by simp [go_sem, hac.e 22 k39_22]) rfl,
    fun f s W hW hd hs hz ac hac => opv rfl rfl (by simp [go_sem, hac.e 271 (hd 0 rfl)]) rfl,
    fun f s W hW hd hs hz ac hac => opv rfl rfl (by simp [go_sem, hac.e 272 (hd 1 rfl)]) rfl,
    fun f s W hW hd hs hz ac hac => osure rfl rfl (hac.says (d := 273) rfl rfl (hd 2 rfl)) (gv (by simp [go_sem, hac.e 21 k39_21]) rfl),
    fun f s W hW hd hs hz ac hac => osure rfl rfl (hac.says (d := 273) rfl rfl (hd 2 rfl)) (gv (by simp [go_sem, hac.e 274 (hd 3 rfl)]) rfl),
    fun f s W hW hd hs hz ac hac => osure rfl rfl (hac.says (d := 273) rfl rfl (hd 2 rfl)) (gv (by simp [go_sem, hac.e 275 (hd 4 rfl), hz3_]) rfl),
    fun f s W hW hd hs hz ac hac => opk (c := true) rfl rfl (fun h => absurd h (by decide)) (fun _ => by simp [go_sem, hac.e 273 (hd 2 rfl), hac.e 276 (hd 5 rfl)]),
    fun f s W hW hd hs hz ac hac => opv rfl rfl (by simp [go_sem, hac.e 277 (hd 6 rfl)]) rfl,
    fun f s W hW hd hs hz ac hac => osure rfl rfl (hac.says (d := 278) rfl rfl (hd 7 rfl)) (gc (by simp [go_sem]) (known_any W)),
    fun f s W hW hd hs hz ac hac => opk (c := true) rfl rfl (fun h => absurd h (by decide)) (fun _ => by simp [go_sem, hac.e 278 (hd 7 rfl), hac.e 279 (hd 8 rfl)]),
    fun f s W hW hd hs hz ac hac => opv rfl rfl (by simp [go_sem, hac.e 280 (hd 9 rfl)]) rfl, trivial⟩ ?_
    intro f40 s40 W40 hB40
    have fB40 : Below w.heap.size w W40 := below_trans fB39 hB40.below
    have z40 : W39.heap.size ≤ W40.heap.size := hB40.below.size
    have b40_0 := blk_below b39_0 hB40.below
    have b40_1 := blk_below b39_1 hB40.below
    have b40_2 := blk_below b39_2 hB40.below
    have b40_3 := blk_below b39_3 hB40.below
    have b40_4 := blk_below b39_4 hB40.below
    have b40_5 := blk_below b39_5 hB40.below
    have q340' := (q332'.below hB40.below)
    have q341' := (q333'.below hB40.below)
    have q342' := (q334'.below hB40.below)
    have q343' := (q335'.below hB40.below (Nat.le_refl _))
    have q344' := (q338'.below hB40.below (Nat.le_refl _))
    refine hK62 _ _ ?_
    generalize hg40 : ov [(271, 0), (272, 1), (273, 2), (274, 3), (275, 4), (276, 5), (277, 6), (278, 7), (279, 8), (280, 9), (4, 10)] f40 g39 = g40
    have k40_4 := kt hg40 4 (hB40.is 10)
    refine wp_ret ?_
    refine leave_one (N := 281) (v := .bool true) (.inr rfl) Tryz.results8 rfl k40_4 ?_
    exact ⟨rfl, fB40⟩
end Go.Proofs.YthnediamopehfaaGreat
