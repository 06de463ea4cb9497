/- Part of the proof: what the claim leans on. -/
import Derived.Test.YthnediamopehfaaGreatZNAL8
set_option linter.unusedSimpArgs false
set_option linter.unusedVariables false
namespace Go.Proofs.YthnediamopehfaaGreat
open Go.RowKit
set_option maxRecDepth 100000 in
set_option maxHeartbeats 40000000 in
theorem named_main_c4 (x y : Sh) (gx : ShIn x) (gy : ShIn y) (b d t : Bl) (vi : Wi) (lo hi lo' hi' F q1 q2 : Int) (L : List Sp) (w : World) (hbx : shBl x = b) (hby : shBl y = d) (hcx : shCal x = (lo, hi)) (hcy : shCal y = (lo', hi')) (ht : twinB d = t) (hto : t.isOpen = vi.isOpen) (hv : wishOf y t lo' hi' = vi) (hck : checkErr b = 0) (hkd : checkErr d = 0) (hkt : checkErr t = 0) (hwi : wishErr vi = 0) (j1 : 1 ≤ lo) (j2 : lo ≤ hi) (j3 : hi ≤ 10000) (j4 : 1 ≤ lo') (j5 : lo' ≤ hi') (j6 : hi' ≤ 10000) (hL : closeL b vi (lo, hi) = L) (hF : calErr b vi = F) (hq : calOf b vi = (q1, q2)) (n1 : b.panels.length ≤ 1000) (n2 : b.top.length ≤ 1000) (n3 : b.bottom.length ≤ 1000) (hFd : (F != 0) = true → (F != 7) = false) (hzz : ((L.length : Int) == 0) = (((F == 0) && decide (q1 ≤ lo)) && decide (hi ≤ q2))) (hasc : ∀ i : Nat, i < L.length → 0 < (i : Int) → ¬ (nthP L i).1 ≤ (nthP L (i - 1)).1) (hnam : ∀ i : Nat, i < L.length → (0 ≤ (nthP L i).1 ∧ (nthP L i).1 ≤ 9) ∧ (lo ≤ (nthP L i).2 ∧ (nthP L i).2 ≤ hi) ∧ namedB (closeL b vi ((nthP L i).2, (nthP L i).2)) (nthP L i).1 = true ∧ (lo < (nthP L i).2 → namedB (closeL b vi (lo, (nthP L i).2 - 1)) (nthP L i).1 = false)) (hcb : F ≠ 0 → q1 = 0 ∧ q2 = 0) (hcg : F = 0 → 1 ≤ q1 ∧ q2 ≤ 10000 ∧ q1 ≤ q2) (hcs1 : F = 0 → 1 ≤ q1 - 1 ∧ q1 - 1 ≤ 10000 → (((closeL b vi (q1 - 1, q1 - 1)).length : Int) == 0) = false) (hcs2 : F = 0 → 1 ≤ q2 + 1 ∧ q2 + 1 ≤ 10000 → (((closeL b vi (q2 + 1, q2 + 1)).length : Int) == 0) = false) (hcz : F = 0 → (((closeL b vi (q1, q2)).length : Int) == 0) = true) (g_ : Nat → Value) (W_ : World) (bk1 : Nat) (bk2 : Nat) (bk4 : Nat) (a61' : Option Addr) (c62' : Nat) (g1' : Nat) (c4' : Nat) (g2' : Nat) (c5' : Nat) (g3' : Nat) (c6' : Nat) (bk3 : Nat) (bk0 : Nat)  (k_4 : g_ 4 = .bool false) (k_5 : g_ 5 = .pointer (some ⟨bk1, 0, none⟩)) (k_6 : g_ 6 = .pointer (some ⟨bk2, 0, none⟩)) (k_7 : g_ 7 = .pointer (some ⟨bk4, 0, none⟩)) (k_8 : g_ 8 = .slice (a61') (L.length) (c62')) (k_9 : g_ 9 = .int .i64 0) (fB_ : Below w.heap.size w W_) (bl_0 : W_.heap[bk3]? = some (.cells #[.int .u8 x.x0, .int .u8 x.x1, .int .u8 x.x2, .int .u8 x.x3, .int .u8 x.xh, .int .u8 x.y0, .int .u8 x.y1, .int .u8 x.y2, .int .u8 x.y3, .bool x.xo, .int .u8 x.ca, .int .u8 x.cb, .int .u8 x.v0, .int .u8 x.v1, .int .u8 x.v2, .int .u8 x.v3, .int .u8 x.v4] 72 (0, 0))) (bl_1 : W_.heap[bk0]? = some (.cells #[.int .u8 y.x0, .int .u8 y.x1, .int .u8 y.x2, .int .u8 y.x3, .int .u8 y.xh, .int .u8 y.y0, .int .u8 y.y1, .int .u8 y.y2, .int .u8 y.y3, .bool y.xo, .int .u8 y.ca, .int .u8 y.cb, .int .u8 y.v0, .int .u8 y.v1, .int .u8 y.v2, .int .u8 y.v3, .int .u8 y.v4] 72 (0, 0))) (bl_2 : W_.heap[bk1]? = some (.cells #[.int .i64 b.tab, .slice (some ⟨g1', 0, none⟩) (b.panels.length) (c4'), .int .i64 b.height, .slice (some ⟨g2', 0, none⟩) (b.top.length) (c5'), .slice (some ⟨g3', 0, none⟩) (b.bottom.length) (c6'), .int .i64 b.slot, .bool b.isOpen] 24 (0, 0))) (bl_3 : W_.heap[bk2]? = some (.cells #[.int .i64 lo, .int .i64 hi] 26 (0, 0))) (bl_4 : W_.heap[bk4]? = some (.cells #[.int .i64 vi.length.1, .int .i64 vi.length.2, .int .i64 vi.width.1, .int .i64 vi.width.2, .int .i64 vi.height.1, .int .i64 vi.height.2, .int .i64 vi.outer.1, .int .i64 vi.outer.2, .int .i64 vi.inner.1, .int .i64 vi.inner.2, .bool vi.isOpen] 43 (0, 0))) (ft_0 : OwnI 0 b.panels g1' c4' W_) (ft_1 : OwnI 0 b.top g2' c5' W_) (ft_2 : OwnI 0 b.bottom g3' c6' W_) (ft_3 : Pp W_ a61' L.length c62' L) (lw_bk3 : w.heap.size ≤ bk3) (lw_bk0 : w.heap.size ≤ bk0) (lw_bk1 : w.heap.size ≤ bk1) (lw_bk2 : w.heap.size ≤ bk2) (lw_bk4 : w.heap.size ≤ bk4) (ne_0_1 : bk3 ≠ bk0) (ne_0_2 : bk3 ≠ bk1) (ne_1_2 : bk0 ≠ bk1) (ne_0_3 : bk3 ≠ bk2) (ne_1_3 : bk0 ≠ bk2) (ne_2_3 : bk1 ≠ bk2) (ne_0_4 : bk3 ≠ bk4) (ne_1_4 : bk0 ≠ bk4) (ne_2_4 : bk1 ≠ bk4) (ne_3_4 : bk2 ≠ bk4) :
    (tailC 4 (bodyC Tryz.f8)).wp Tryz.prog (bodyPost Tryz.prog Tryz.f8 (fun e w' => e = .returned (.bool true) ∧ Below w.heap.size w w')) (fr 281 g_) W_ := by
  have hll0 := hck
  have lt_bk3 := lt_of_blk bl_0
  have lt_bk0 := lt_of_blk bl_1
  have lt_bk1 := lt_of_blk bl_2
  have lt_bk2 := lt_of_blk bl_3
  have lt_bk4 := lt_of_blk bl_4
  have lim65' := Pp.lim ft_3
  refine wp_seq_k fun K5 hK5 => ?_
  as_aux_lemma =>
  refine region_doL (LeT (W_.heap.size) 26 (justC (#[.int .i64 q1, .int .i64 q2]))) LeT.refl (LeT.drew justC_b) LeT.trans (fun _ _ h => h.size) 9 [(43, 0), (44, 1), (45, 2), (46, 3), (42, 4), (47, 5), (48, 6), (10, 7), (11, 9)] [[], [0], [], [0, 1, 2], [0, 1, 2, 3], [0, 1, 2, 3, 4], [0, 1, 2, 3, 4], [], [0, 1, 2, 3, 4, 5, 7], [0, 1, 2, 3, 4, 5, 6, 7, 8]] (rel [is (.agg #[.int .i64 b.tab, .slice (some ⟨g1', 0, none⟩) (b.panels.length) (c4'), .int .i64 b.height, .slice (some ⟨g2', 0, none⟩) (b.top.length) (c5'), .slice (some ⟨g3', 0, none⟩) (b.bottom.length) (c6'), .int .i64 b.slot, .bool b.isOpen]),
      ab fun v W => TyBlk 0 b v W,
      is (.agg #[.int .i64 vi.length.1, .int .i64 vi.length.2, .int .i64 vi.width.1, .int .i64 vi.width.2, .int .i64 vi.height.1, .int .i64 vi.height.2, .int .i64 vi.outer.1, .int .i64 vi.outer.2, .int .i64 vi.inner.1, .int .i64 vi.inner.2, .bool vi.isOpen]),
      is (.tuple #[.agg #[.int .i64 q1, .int .i64 q2], .int .i64 F]),
      is (.tuple #[.agg #[.int .i64 q1, .int .i64 q2], .int .i64 F]),
      is (.agg #[.int .i64 q1, .int .i64 q2]),
      is (.int .i64 F),
      boxT (W_.heap.size) 26 2 7,
      stoT (W_.heap.size) 26 (justC (#[.int .i64 q1, .int .i64 q2])) 7]) (by kernel_rfl) (by kernel_rfl) (by kernel_rfl) (by kernel_rfl)
    ⟨is_kl, ty_k, is_kl, is_kl, is_kl, is_kl, is_kl, boxT_k, stoT_k (by simp), trivial⟩
    ⟨fun f s W hT hd hs hz ac hac => by have hW := LeT.below hT (Nat.le_refl _); exact OpDo.l (LeT.of_below justC_b) (opl rfl rfl rfl (hac.v 5 k_5) (blk_below bl_2 hW) Tryz.underlying24 rfl (by kernel_rfl) rfl),
    fun f s W hT hd hs hz ac hac => by have hW := LeT.below hT (Nat.le_refl _); exact OpDo.l (LeT.of_below justC_b) (opDo_call (args := #[.agg #[.int .i64 b.tab, .slice (some ⟨g1', 0, none⟩) (b.panels.length) (c4'), .int .i64 b.height, .slice (some ⟨g2', 0, none⟩) (b.top.length) (c5'), .slice (some ⟨g3', 0, none⟩) (b.bottom.length) (c6'), .int .i64 b.slot, .bool b.isOpen]]) rfl rfl (by simp [go_sem, hac.e 43 (hd 0 rfl)]) (own_ty _ _ _ _ _ _ b W ((ft_0.below hW)).ii ((ft_1.below hW)).ii ((ft_2.below hW)).ii hck) ((fun e W' h => by obtain ⟨v, e1, h1, h2⟩ := h; exact ⟨_, e1, h2, h1.low (Nat.zero_le _)⟩))),
    fun f s W hT hd hs hz ac hac => by have hW := LeT.below hT (Nat.le_refl _); exact OpDo.l (LeT.of_below justC_b) (opl rfl rfl rfl (hac.v 7 k_7) (blk_below bl_4 hW) Tryz.underlying43 rfl (by kernel_rfl) rfl),
    fun f s W hT hd hs hz ac hac => by have hW := LeT.below hT (Nat.le_refl _); exact OpDo.l (LeT.of_below justC_b) (by obtain ⟨g66', c69', g67', c70', g68', c71', d1, q72', q73', q74'⟩ := (hd 1 rfl); exact opDo_call (args := #[.agg #[.int .i64 b.tab, .slice (some ⟨g66', 0, none⟩) (b.panels.length) (c69'), .int .i64 b.height, .slice (some ⟨g67', 0, none⟩) (b.top.length) (c70'), .slice (some ⟨g68', 0, none⟩) (b.bottom.length) (c71'), .int .i64 b.slot, .bool b.isOpen], .agg #[.int .i64 vi.length.1, .int .i64 vi.length.2, .int .i64 vi.width.1, .int .i64 vi.width.2, .int .i64 vi.height.1, .int .i64 vi.height.2, .int .i64 vi.outer.1, .int .i64 vi.outer.2, .int .i64 vi.inner.1, .int .i64 vi.inner.2, .bool vi.isOpen]]) rfl rfl (by simp [go_sem, hac.e 44 d1, hac.e 45 (hd 2 rfl)]) (cal_ok vi W ⟨_, _, _, _, _, _, _, _, _, rfl, q72'.ii, q73'.ii, q74'.ii⟩) ((fun e W' h => by have h1 := h.1; rw [hq, hF] at h1; exact ⟨_, h1, h.2, rfl⟩))),
    fun f s W hT hd hs hz ac hac => by have hW := LeT.below hT (Nat.le_refl _); exact OpDo.l (LeT.of_below justC_b) (opv rfl rfl (by simp [go_sem, hac.e 46 (hd 3 rfl)]) rfl),
    fun f s W hT hd hs hz ac hac => by have hW := LeT.below hT (Nat.le_refl _); exact OpDo.l (LeT.of_below justC_b) (opv rfl rfl (by simp [go_sem, hac.e 42 (hd 4 rfl)]) rfl),
    fun f s W hT hd hs hz ac hac => by have hW := LeT.below hT (Nat.le_refl _); exact OpDo.l (LeT.of_below justC_b) (opv rfl rfl (by simp [go_sem, hac.e 42 (hd 4 rfl)]) rfl),
    fun f s W hT hd hs hz ac hac => opT (cs := #[.int .i64 0, .int .i64 0]) justC_b (hT.size) rfl rfl (by simp [go_sem]) rfl,
    fun f s W hT hd hs hz ac hac => by exact stoT_do (#[.int .i64 q1, .int .i64 q2]) rfl (by decide) (hd 7 rfl) (hac.v 10 (hd 7 rfl).1) (hac.v 47 (hd 5 rfl)) rfl rfl (by rfl) (by rfl) ((rfl : justC (#[.int .i64 q1, .int .i64 q2]) (#[.int .i64 q1, .int .i64 q2]) W)) (fun _ _ _ h => h) (fun _ _ _ _ _ h => h), trivial⟩ ?_
  intro f8 s8 W8 hB8
  have hb8 := LeT.below hB8.le (Nat.le_refl _)
  have fB8 : Below w.heap.size w W8 := below_trans fB_ hb8
  have z8 : W_.heap.size ≤ W8.heap.size := hb8.size
  have b8_0 := blk_below bl_0 hb8
  have b8_1 := blk_below bl_1 hb8
  have b8_2 := blk_below bl_2 hb8
  have b8_3 := blk_below bl_3 hb8
  have b8_4 := blk_below bl_4 hb8
  have q75' := (ft_0.below hb8)
  have q76' := (ft_1.below hb8)
  have q77' := (ft_2.below hb8)
  have q78' := (ft_3.below hb8 (Nat.le_refl _))
  obtain ⟨r8_7, lb8, -⟩ := hB8.is 7
  obtain ⟨-, cs8, bs8, hG8⟩ := hB8.is 8
  have hG8' : cs8 = #[.int .i64 q1, .int .i64 q2] := hG8
  subst hG8'
  have lr8_7 : W_.heap.size ≤ s8 7 ∧ s8 7 < W8.heap.size := ⟨lb8, lt_of_blk bs8⟩
  generalize hg8 : ov [(43, 0), (44, 1), (45, 2), (46, 3), (42, 4), (47, 5), (48, 6), (10, 7), (11, 9)] f8 g_ = g8
  have k8_4 := kt hg8 4 k_4
  have k8_5 := kt hg8 5 k_5
  have k8_6 := kt hg8 6 k_6
  have k8_7 := kt hg8 7 k_7
  have k8_8 := kt hg8 8 k_8
  have k8_9 := kt hg8 9 k_9
  have k8_10 := kt hg8 10 r8_7
  have k8_48 := kt hg8 48 (hB8.is 6)
  refine tail_value (o := _) rfl rfl rfl (v := .int .i64 F) (by simp [go_sem, frv 281 k8_48]) ?_
  generalize hg9 : upd g8 11 (.int .i64 F) = g9
  have k9_4 := ku hg9 4 k8_4
  have k9_5 := ku hg9 5 k8_5
  have k9_6 := ku hg9 6 k8_6
  have k9_7 := ku hg9 7 k8_7
  have k9_8 := ku hg9 8 k8_8
  have k9_9 := ku hg9 9 k8_9
  have k9_10 := ku hg9 10 k8_10
  have k9_11 := kt hg9 11 (upd_same _ _ _)
  refine wpOps_end ?_
  refine hK5 _ _ ?_
  have fA10 : Below W8.heap.size W8 W8 := Below.refl _ _
  refine wp_seq_k fun K6 hK6 => ?_
  refine wp_seq_k fun K7 hK7 => ?_
  as_aux_lemma =>
  refine region_do 32 [(49, 0), (50, 1), (51, 2), (52, 3), (53, 4), (54, 5), (55, 6), (56, 7), (57, 8), (58, 9), (59, 10), (60, 11), (61, 12), (62, 13), (63, 14), (64, 15), (65, 16), (66, 17), (67, 18), (68, 19), (69, 20), (70, 21), (71, 22), (72, 23), (73, 24), (74, 25), (75, 26), (76, 27), (77, 28), (78, 29), (79, 30), (80, 31)] [[], [0], [0, 1], [0, 1, 2], [0, 1, 2, 3], [0, 1, 2, 3, 4], [0, 1, 2, 3, 4, 5], [0, 1, 2, 3, 4, 5, 6], [0, 1, 2, 3, 4, 5, 6, 7], [0, 1, 2, 3, 4, 5, 6, 7, 8], [0, 1, 2, 3, 4, 5, 6, 7, 8, 9], [0, 1, 2, 3, 4, 5, 6, 7, 8, 9, 10], [0, 1, 2, 3, 4, 5, 6, 7, 8, 9, 10, 11], [0, 1, 2, 3, 4, 5, 6, 7, 8, 9, 10, 11, 12], [0, 1, 2, 3, 4, 5, 6, 7, 8, 9, 10], [0, 1, 2, 3, 4, 5, 6, 7, 8, 9, 10, 14], [0, 1, 2, 3, 4, 5, 6, 7, 8, 9, 10, 14, 15], [0, 1, 2, 3, 4, 5, 6, 7, 8, 9, 10, 14, 15, 16], [0, 1, 2, 3, 4, 5, 6, 7, 8, 9, 10, 14, 15, 16, 17], [0, 1, 2, 3, 4, 5, 6, 7, 8, 9, 10, 14, 15, 16], [0, 1, 2, 3, 4, 5, 6, 7, 8, 9, 10, 14, 15, 16, 19], [0, 1, 2, 3, 4, 5, 6, 7, 8, 9, 10, 14, 15, 16, 17, 18, 19, 20], [0, 1, 2, 3, 4, 5, 6, 7, 8, 9, 10, 14, 15, 16, 17, 18, 19, 20, 21], [0, 1, 2, 3, 4, 5, 6, 7, 8, 9, 10, 14, 15, 16, 17, 18, 19, 20, 21, 22], [0, 1, 2, 3, 4, 5, 6, 7, 8, 9, 10, 14, 15, 16, 17, 18, 19, 20, 21, 22, 23], [0, 1, 2, 3, 4, 5, 6, 7, 8, 9, 10, 14, 15, 16, 17, 18, 19, 20, 21, 22, 23, 24], [0, 1, 2, 3, 4, 5, 6, 7, 8, 9, 10, 14, 15, 16, 17, 18, 19, 20, 21, 22, 23], [0, 1, 2, 3, 4, 5, 6, 7, 8, 9, 10, 14, 15, 16, 17, 18, 19, 20, 21, 22, 23, 26], [0, 1, 2, 3, 4, 5, 6, 7, 8, 9, 10, 14, 15, 16, 17, 18, 19, 20, 21, 22, 23, 24, 25, 26, 27], [0, 1, 2, 3, 4, 5, 6, 7, 8, 9, 10, 14, 15, 16, 17, 18, 19, 20, 21, 22, 23, 24, 25, 26, 27, 28], [0, 1, 2, 3, 4, 5, 6, 7, 8, 9, 10, 11, 12, 13, 14, 15, 16, 17, 18, 19, 20, 21, 22, 23, 24, 25, 26, 27, 28, 29], [0, 1, 2, 3, 4, 5, 6, 7, 8, 9, 10, 11, 12, 13, 14, 15, 16, 17, 18, 19, 20, 21, 22, 23, 24, 25, 26, 27, 28, 29, 30]] (rel [is (.int .i64 0),
      is (.bool false),
      is (.bool false),
      is (.int .i64 F),
      is (.bool (F != 0)),
      is (.bool (F != 0)),
      gd (F != 0) true (is (.int .i64 F)),
      gd (F != 0) true (is (.bool false)),
      is (.bool false),
      is (.bool false),
      is (.bool false),
      is (.slice (a61') (L.length) (c62')),
      is (.int .i64 ((L.length : Int))),
      is (.bool (((F == 0) && (decide (q1 ≤ lo))) && (decide (hi ≤ q2)))),
      is (.int .i64 F),
      is (.bool (F == 0)),
      is (.bool (F == 0)),
      gd (F == 0) true (is (.pointer (some ⟨(s8 7), 0, none⟩))),
      gd (F == 0) true (is (.int .i64 q1)),
      gd (F == 0) true (is (.pointer (some ⟨bk2, 0, none⟩))),
      gd (F == 0) true (is (.int .i64 lo)),
      gd (F == 0) true (is (.bool (decide (q1 ≤ lo)))),
      is (.bool ((F == 0) && (decide (q1 ≤ lo)))),
      is (.bool ((F == 0) && (decide (q1 ≤ lo)))),
      gd ((F == 0) && (decide (q1 ≤ lo))) true (is (.pointer (some ⟨(s8 7), 1, none⟩))),
      gd ((F == 0) && (decide (q1 ≤ lo))) true (is (.int .i64 q2)),
      gd ((F == 0) && (decide (q1 ≤ lo))) true (is (.pointer (some ⟨bk2, 1, none⟩))),
      gd ((F == 0) && (decide (q1 ≤ lo))) true (is (.int .i64 hi)),
      gd ((F == 0) && (decide (q1 ≤ lo))) true (is (.bool (decide (hi ≤ q2)))),
      is (.bool (((F == 0) && (decide (q1 ≤ lo))) && (decide (hi ≤ q2)))),
      is (.bool false),
      is (.bool false)]) (by kernel_rfl) (by kernel_rfl) (by kernel_rfl) (by kernel_rfl)
    ⟨is_k, is_k, is_k, is_k, is_k, is_k, gd_k (is_k), gd_k (is_k), is_k, is_k, is_k, is_k, is_k, is_k, is_k, is_k, is_k, gd_k (is_k), gd_k (is_k), gd_k (is_k), gd_k (is_k), gd_k (is_k), is_k, is_k, gd_k (is_k), gd_k (is_k), gd_k (is_k), gd_k (is_k), gd_k (is_k), is_k, is_k, is_k, trivial⟩
    ⟨fun f s W hW hd hs hz ac hac => opv rfl rfl (by simp [go_sem, hac.e 9 k9_9]) rfl,
    fun f s W hW hd hs hz ac hac => opv rfl rfl (by simp [go_sem, hac.e 49 (hd 0 rfl)]) rfl,
    fun f s W hW hd hs hz ac hac => opv rfl rfl (by simp [go_sem, hac.e 50 (hd 1 rfl)]) rfl,
    fun f s W hW hd hs hz ac hac => osure rfl rfl (hac.says (d := 51) rfl rfl (hd 2 rfl)) (gv (by simp [go_sem, hac.e 11 k9_11]) rfl),
    fun f s W hW hd hs hz ac hac => osure rfl rfl (hac.says (d := 51) rfl rfl (hd 2 rfl)) (gv (by simp [go_sem, hac.e 52 (hd 3 rfl)]) rfl),
    fun f s W hW hd hs hz ac hac => osure rfl rfl (hac.says (d := 51) rfl rfl (hd 2 rfl)) (gv (by simp [go_sem, hac.e 53 (hd 4 rfl)]) rfl),
    fun f s W hW hd hs hz ac hac => gdo rfl rfl (hac.says (d := 54) rfl rfl (hd 5 rfl)) fun hgd0 => gv (by simp [go_sem, hac.e 11 k9_11]) rfl,
    fun f s W hW hd hs hz ac hac => gdo rfl rfl (hac.says (d := 54) rfl rfl (hd 5 rfl)) fun hgd0 => by have hF7_ := hFd hgd0; exact gv (by simp [go_sem, hac.e 55 ((hd 6 rfl).1 hgd0), hF7_]) rfl,
    fun f s W hW hd hs hz ac hac => osure rfl rfl (hac.says (d := 51) rfl rfl (hd 2 rfl)) (gk (c := F != 0) (fun hpk => by first | (simp [go_sem, hpk, hac.e 54 (hd 5 rfl)]; done) | (have hpk' := hpk; simp at hpk'; simp [go_sem, hpk', hpk, hac.e 54 (hd 5 rfl)])) (fun hpk => by first | (simp [go_sem, hpk, hac.e 54 (hd 5 rfl), hac.e 56 ((hd 7 rfl).1 hpk)]; done) | (have hpk' := hpk; simp at hpk'; simp [go_sem, hpk', hpk, hac.e 54 (hd 5 rfl), hac.e 56 ((hd 7 rfl).1 hpk)]))),
    fun f s W hW hd hs hz ac hac => opk (c := false) rfl rfl (fun _ => by simp [go_sem, hac.e 51 (hd 2 rfl), hac.e 57 (hd 8 rfl)]) (fun h => absurd h (by decide)),
    fun f s W hW hd hs hz ac hac => opv rfl rfl (by simp [go_sem, hac.e 58 (hd 9 rfl)]) rfl,
    fun f s W hW hd hs hz ac hac => osure rfl rfl (hac.says (d := 59) rfl rfl (hd 10 rfl)) (gv (by simp [go_sem, hac.e 8 k9_8]) rfl),
    fun f s W hW hd hs hz ac hac => osure rfl rfl (hac.says (d := 59) rfl rfl (hd 10 rfl)) (gv (by simp [go_sem, hac.e 60 (hd 11 rfl)]) rfl),
    fun f s W hW hd hs hz ac hac => osure rfl rfl (hac.says (d := 59) rfl rfl (hd 10 rfl)) (gv (by simp [go_sem, hac.e 61 (hd 12 rfl), hzz]) rfl),
    fun f s W hW hd hs hz ac hac => osure rfl rfl (hac.says (d := 59) rfl rfl (hd 10 rfl)) (gv (by simp [go_sem, hac.e 11 k9_11]) rfl),
    fun f s W hW hd hs hz ac hac => osure rfl rfl (hac.says (d := 59) rfl rfl (hd 10 rfl)) (gv (by simp [go_sem, hac.e 63 (hd 14 rfl)]) rfl),
    fun f s W hW hd hs hz ac hac => osure rfl rfl (hac.says (d := 59) rfl rfl (hd 10 rfl)) (gv (by simp [go_sem, hac.e 64 (hd 15 rfl)]) rfl),
    fun f s W hW hd hs hz ac hac => gdo rfl rfl (hac.says (d := 65) rfl rfl (hd 16 rfl)) fun hgd0 => gv (by simp [go_sem, hac.e 10 k9_10]) rfl,
    fun f s W hW hd hs hz ac hac => gdo rfl rfl (hac.says (d := 65) rfl rfl (hd 16 rfl)) fun hgd0 => by have aW := below_trans fA10 hW; exact gv (by simp [go_sem, hac.e 66 ((hd 17 rfl).1 hgd0), Joins.cell_of_block (blk_below bs8 aW) 0]) rfl,
    fun f s W hW hd hs hz ac hac => gdo rfl rfl (hac.says (d := 65) rfl rfl (hd 16 rfl)) fun hgd0 => gv (by simp [go_sem, hac.e 6 k9_6]) rfl,
    fun f s W hW hd hs hz ac hac => gdo rfl rfl (hac.says (d := 65) rfl rfl (hd 16 rfl)) fun hgd0 => by have aW := below_trans fA10 hW; exact gv (by simp [go_sem, hac.e 68 ((hd 19 rfl).1 hgd0), Joins.cell_of_block (blk_below b8_3 aW) 0]) rfl,
    fun f s W hW hd hs hz ac hac => gdo rfl rfl (hac.says (d := 65) rfl rfl (hd 16 rfl)) fun hgd0 => gv (by simp [go_sem, hac.e 67 ((hd 18 rfl).1 hgd0), hac.e 69 ((hd 20 rfl).1 hgd0)]) rfl,
    fun f s W hW hd hs hz ac hac => osure rfl rfl (hac.says (d := 59) rfl rfl (hd 10 rfl)) (gk (c := F == 0) (fun hpk => by first | (simp [go_sem, hpk, hac.e 65 (hd 16 rfl)]; done) | (have hpk' := hpk; simp at hpk'; simp [go_sem, hpk', hpk, hac.e 65 (hd 16 rfl)])) (fun hpk => by first | (simp [go_sem, hpk, hac.e 65 (hd 16 rfl), hac.e 70 ((hd 21 rfl).1 hpk)]; done) | (have hpk' := hpk; simp at hpk'; simp [go_sem, hpk', hpk, hac.e 65 (hd 16 rfl), hac.e 70 ((hd 21 rfl).1 hpk)]))),
    fun f s W hW hd hs hz ac hac => osure rfl rfl (hac.says (d := 59) rfl rfl (hd 10 rfl)) (gv (by simp [go_sem, hac.e 71 (hd 22 rfl)]) rfl),
    fun f s W hW hd hs hz ac hac => gdo rfl rfl (hac.says (d := 72) rfl rfl (hd 23 rfl)) fun hgd0 => gv (by simp [go_sem, hac.e 10 k9_10]) rfl,
    fun f s W hW hd hs hz ac hac => gdo rfl rfl (hac.says (d := 72) rfl rfl (hd 23 rfl)) fun hgd0 => by have aW := below_trans fA10 hW; exact gv (by simp [go_sem, hac.e 73 ((hd 24 rfl).1 hgd0), Joins.cell_of_block (blk_below bs8 aW) 1]) rfl,
    fun f s W hW hd hs hz ac hac => gdo rfl rfl (hac.says (d := 72) rfl rfl (hd 23 rfl)) fun hgd0 => gv (by simp [go_sem, hac.e 6 k9_6]) rfl,
    fun f s W hW hd hs hz ac hac => gdo rfl rfl (hac.says (d := 72) rfl rfl (hd 23 rfl)) fun hgd0 => by have aW := below_trans fA10 hW; exact gv (by simp [go_sem, hac.e 75 ((hd 26 rfl).1 hgd0), Joins.cell_of_block (blk_below b8_3 aW) 1]) rfl,
    fun f s W hW hd hs hz ac hac => gdo rfl rfl (hac.says (d := 72) rfl rfl (hd 23 rfl)) fun hgd0 => gv (by simp [go_sem, hac.e 74 ((hd 25 rfl).1 hgd0), hac.e 76 ((hd 27 rfl).1 hgd0)]) rfl,
    fun f s W hW hd hs hz ac hac => osure rfl rfl (hac.says (d := 59) rfl rfl (hd 10 rfl)) (gk (c := (F == 0) && (decide (q1 ≤ lo))) (fun hpk => by first | (simp [go_sem, hpk, hac.e 72 (hd 23 rfl)]; done) | (have hpk' := hpk; simp at hpk'; simp [go_sem, hpk', hpk, hac.e 72 (hd 23 rfl)])) (fun hpk => by first | (simp [go_sem, hpk, hac.e 72 (hd 23 rfl), hac.e 77 ((hd 28 rfl).1 hpk)]; done) | (have hpk' := hpk; simp at hpk'; simp [go_sem, hpk', hpk, hac.e 72 (hd 23 rfl), hac.e 77 ((hd 28 rfl).1 hpk)]))),
    fun f s W hW hd hs hz ac hac => osure rfl rfl (hac.says (d := 59) rfl rfl (hd 10 rfl)) (gv (by simp [go_sem, hac.e 62 (hd 13 rfl), hac.e 78 (hd 29 rfl), Bool.false_eq_true]) rfl),
    fun f s W hW hd hs hz ac hac => opk (c := false) rfl rfl (fun _ => by simp [go_sem, hac.e 59 (hd 10 rfl), hac.e 79 (hd 30 rfl)]) (fun h => absurd h (by decide)), trivial⟩ ?_
  intro f11 s11 W11 hB11
  have fB11 : Below w.heap.size w W11 := below_trans fB8 hB11.below
  have z11 : W8.heap.size ≤ W11.heap.size := hB11.below.size
  have fA11 := below_trans fA10 hB11.below
  refine hK7 _ _ ?_
  generalize hg11 : ov [(49, 0), (50, 1), (51, 2), (52, 3), (53, 4), (54, 5), (55, 6), (56, 7), (57, 8), (58, 9), (59, 10), (60, 11), (61, 12), (62, 13), (63, 14), (64, 15), (65, 16), (66, 17), (67, 18), (68, 19), (69, 20), (70, 21), (71, 22), (72, 23), (73, 24), (74, 25), (75, 26), (76, 27), (77, 28), (78, 29), (79, 30), (80, 31)] f11 g9 = g11
  have k11_4 := kt hg11 4 k9_4
  have k11_5 := kt hg11 5 k9_5
  have k11_6 := kt hg11 6 k9_6
  have k11_7 := kt hg11 7 k9_7
  have k11_8 := kt hg11 8 k9_8
  have k11_10 := kt hg11 10 k9_10
  have k11_11 := kt hg11 11 k9_11
  have k11_80 := kt hg11 80 (hB11.is 31)
  refine wp_cond_false ((fr_eval rfl).trans k11_80) ?_
  refine wp_skip ?_
  refine hK6 _ _ ?_
  have q79' := (q75'.below fA11)
  have q80' := (q76'.below fA11)
  have q81' := (q77'.below fA11)
  have q82' := (q78'.below fA11 (Nat.le_refl _))
  have bl83' := blk_below b8_0 fA11
  have bl84' := blk_below b8_1 fA11
  have bl85' := blk_below b8_2 fA11
  have bl86' := blk_below b8_3 fA11
  have bl87' := blk_below b8_4 fA11
  have bl88' := blk_below bs8 fA11
  exact named_main_c7 x y gx gy b d t vi lo hi lo' hi' F q1 q2 L w hbx hby hcx hcy ht hto hv hck hkd hkt hwi j1 j2 j3 j4 j5 j6 hL hF hq n1 n2 n3 hFd hzz hasc hnam hcb hcg hcs1 hcs2 hcz g11 W11 bk1 bk2 bk4 a61' c62' (s8 7) g1' c4' g2' c5' g3' c6' bk3 bk0 k11_4 k11_5 k11_6 k11_7 k11_8 k11_10 k11_11 fB11 bl83' bl84' bl85' bl86' bl87' bl88' q79' q80' q81' q82' (by omega) (by omega) (by omega) (by omega) (by omega) (by omega) (by omega) (by omega) (by omega) (by omega) (by omega) (by omega) (by omega) (by omega) (by omega) (by omega) (by omega) (by omega) (by omega) (by omega) (by omega)
end Go.Proofs.YthnediamopehfaaGreat
namespace Go.Proofs.YthnediamopehfaaGreat
open Go.RowKit
set_option maxRecDepth 100000 in
set_option maxHeartbeats 40000000 in
theorem named_main_c3 (x y : Sh) (gx : ShIn x) (gy : ShIn y) (b d t : Bl) (vi : Wi) (lo hi lo' hi' F q1 q2 : Int) (L : List Sp) (w : World) (hbx : shBl x = b) (hby : shBl y = d) (hcx : shCal x = (lo, hi)) (hcy : shCal y = (lo', hi')) (ht : twinB d = t) (hto : t.isOpen = vi.isOpen) (hv : wishOf y t lo' hi' = vi) (hck : checkErr b = 0) (hkd : checkErr d = 0) (hkt : checkErr t = 0) (hwi : wishErr vi = 0) (j1 : 1 ≤ lo) (j2 : lo ≤ hi) (j3 : hi ≤ 10000) (j4 : 1 ≤ lo') (j5 : lo' ≤ hi') (j6 : hi' ≤ 10000) (hL : closeL b vi (lo, hi) = L) (hF : calErr b vi = F) (hq : calOf b vi = (q1, q2)) (n1 : b.panels.length ≤ 1000) (n2 : b.top.length ≤ 1000) (n3 : b.bottom.length ≤ 1000) (hFd : (F != 0) = true → (F != 7) = false) (hzz : ((L.length : Int) == 0) = (((F == 0) && decide (q1 ≤ lo)) && decide (hi ≤ q2))) (hasc : ∀ i : Nat, i < L.length → 0 < (i : Int) → ¬ (nthP L i).1 ≤ (nthP L (i - 1)).1) (hnam : ∀ i : Nat, i < L.length → (0 ≤ (nthP L i).1 ∧ (nthP L i).1 ≤ 9) ∧ (lo ≤ (nthP L i).2 ∧ (nthP L i).2 ≤ hi) ∧ namedB (closeL b vi ((nthP L i).2, (nthP L i).2)) (nthP L i).1 = true ∧ (lo < (nthP L i).2 → namedB (closeL b vi (lo, (nthP L i).2 - 1)) (nthP L i).1 = false)) (hcb : F ≠ 0 → q1 = 0 ∧ q2 = 0) (hcg : F = 0 → 1 ≤ q1 ∧ q2 ≤ 10000 ∧ q1 ≤ q2) (hcs1 : F = 0 → 1 ≤ q1 - 1 ∧ q1 - 1 ≤ 10000 → (((closeL b vi (q1 - 1, q1 - 1)).length : Int) == 0) = false) (hcs2 : F = 0 → 1 ≤ q2 + 1 ∧ q2 + 1 ≤ 10000 → (((closeL b vi (q2 + 1, q2 + 1)).length : Int) == 0) = false) (hcz : F = 0 → (((closeL b vi (q1, q2)).length : Int) == 0) = true) (g_ : Nat → Value) (W_ : World) (bk1 : Nat) (bk2 : Nat) (bk4 : Nat) (g1' : Nat) (c4' : Nat) (g2' : Nat) (c5' : Nat) (g3' : Nat) (c6' : Nat) (bk3 : Nat) (bk0 : Nat)  (k_4 : g_ 4 = .bool false) (k_5 : g_ 5 = .pointer (some ⟨bk1, 0, none⟩)) (k_6 : g_ 6 = .pointer (some ⟨bk2, 0, none⟩)) (k_7 : g_ 7 = .pointer (some ⟨bk4, 0, none⟩)) (fB_ : Below w.heap.size w W_) (bl_0 : W_.heap[bk3]? = some (.cells #[.int .u8 x.x0, .int .u8 x.x1, .int .u8 x.x2, .int .u8 x.x3, .int .u8 x.xh, .int .u8 x.y0, .int .u8 x.y1, .int .u8 x.y2, .int .u8 x.y3, .bool x.xo, .int .u8 x.ca, .int .u8 x.cb, .int .u8 x.v0, .int .u8 x.v1, .int .u8 x.v2, .int .u8 x.v3, .int .u8 x.v4] 72 (0, 0))) (bl_1 : W_.heap[bk0]? = some (.cells #[.int .u8 y.x0, .int .u8 y.x1, .int .u8 y.x2, .int .u8 y.x3, .int .u8 y.xh, .int .u8 y.y0, .int .u8 y.y1, .int .u8 y.y2, .int .u8 y.y3, .bool y.xo, .int .u8 y.ca, .int .u8 y.cb, .int .u8 y.v0, .int .u8 y.v1, .int .u8 y.v2, .int .u8 y.v3, .int .u8 y.v4] 72 (0, 0))) (bl_2 : W_.heap[bk1]? = some (.cells #[.int .i64 b.tab, .slice (some ⟨g1', 0, none⟩) (b.panels.length) (c4'), .int .i64 b.height, .slice (some ⟨g2', 0, none⟩) (b.top.length) (c5'), .slice (some ⟨g3', 0, none⟩) (b.bottom.length) (c6'), .int .i64 b.slot, .bool b.isOpen] 24 (0, 0))) (bl_3 : W_.heap[bk2]? = some (.cells #[.int .i64 lo, .int .i64 hi] 26 (0, 0))) (bl_4 : W_.heap[bk4]? = some (.cells #[.int .i64 vi.length.1, .int .i64 vi.length.2, .int .i64 vi.width.1, .int .i64 vi.width.2, .int .i64 vi.height.1, .int .i64 vi.height.2, .int .i64 vi.outer.1, .int .i64 vi.outer.2, .int .i64 vi.inner.1, .int .i64 vi.inner.2, .bool vi.isOpen] 43 (0, 0))) (ft_0 : OwnI 0 b.panels g1' c4' W_) (ft_1 : OwnI 0 b.top g2' c5' W_) (ft_2 : OwnI 0 b.bottom g3' c6' W_) (lw_bk3 : w.heap.size ≤ bk3) (lw_bk0 : w.heap.size ≤ bk0) (lw_bk1 : w.heap.size ≤ bk1) (lw_bk2 : w.heap.size ≤ bk2) (lw_bk4 : w.heap.size ≤ bk4) (ne_0_1 : bk3 ≠ bk0) (ne_0_2 : bk3 ≠ bk1) (ne_1_2 : bk0 ≠ bk1) (ne_0_3 : bk3 ≠ bk2) (ne_1_3 : bk0 ≠ bk2) (ne_2_3 : bk1 ≠ bk2) (ne_0_4 : bk3 ≠ bk4) (ne_1_4 : bk0 ≠ bk4) (ne_2_4 : bk1 ≠ bk4) (ne_3_4 : bk2 ≠ bk4) :
    (tailC 3 (bodyC Tryz.f8)).wp Tryz.prog (bodyPost Tryz.prog Tryz.f8 (fun e w' => e = .returned (.bool true) ∧ Below w.heap.size w w')) (fr 281 g_) W_ := by
  have hll0 := hck
  have lt_bk3 := lt_of_blk bl_0
  have lt_bk0 := lt_of_blk bl_1
  have lt_bk1 := lt_of_blk bl_2
  have lt_bk2 := lt_of_blk bl_3
  have lt_bk4 := lt_of_blk bl_4
  refine wp_seq_k fun K4 hK4 => ?_
  as_aux_lemma =>
  refine region_do 10 [(35, 0), (36, 1), (37, 2), (38, 3), (39, 4), (34, 5), (40, 6), (41, 7), (8, 8), (9, 9)] [[], [0], [], [], [0, 1, 2, 3], [0, 1, 2, 3, 4], [0, 1, 2, 3, 4, 5], [0, 1, 2, 3, 4, 5], [0, 1, 2, 3, 4, 5, 6], [0, 1, 2, 3, 4, 5, 6, 7, 8]] (rel [is (.agg #[.int .i64 b.tab, .slice (some ⟨g1', 0, none⟩) (b.panels.length) (c4'), .int .i64 b.height, .slice (some ⟨g2', 0, none⟩) (b.top.length) (c5'), .slice (some ⟨g3', 0, none⟩) (b.bottom.length) (c6'), .int .i64 b.slot, .bool b.isOpen]),
      fun v s W => NwBlk (s 1) (b) v W,
      is (.agg #[.int .i64 vi.length.1, .int .i64 vi.length.2, .int .i64 vi.width.1, .int .i64 vi.width.2, .int .i64 vi.height.1, .int .i64 vi.height.2, .int .i64 vi.outer.1, .int .i64 vi.outer.2, .int .i64 vi.inner.1, .int .i64 vi.inner.2, .bool vi.isOpen]),
      is (.agg #[.int .i64 lo, .int .i64 hi]),
      ab fun v W => ∃ x0, v = .tuple #[x0, .int .i64 0] ∧ IsPp L x0 W,
      ab fun v W => ∃ x0, v = .tuple #[x0, .int .i64 0] ∧ IsPp L x0 W,
      ab fun v W => IsPp L v W,
      is (.int .i64 0),
      ab fun v W => IsPp L v W,
      is (.int .i64 0)]) (by kernel_rfl) (by kernel_rfl) (by kernel_rfl) (by kernel_rfl)
    ⟨is_k, ⟨fun v k W W' hb h => h.below hb, fun v s s' W e h => by have h' : NwBlk (s 1) (b) v W := h; show NwBlk (s' 1) (b) v W; rw [← e 1 (by simp)]; exact h'⟩, is_k, is_k, ab_k fun v W W' hb ⟨x0, e, h0⟩ => ⟨x0, e, h0.below hb⟩, ab_k fun v W W' hb ⟨x0, e, h0⟩ => ⟨x0, e, h0.below hb⟩, ab_k fun v W W' hb h => h.below hb, is_k, ab_k fun v W W' hb h => h.below hb, is_k, trivial⟩
    ⟨fun f s W hW hd hs hz ac hac => opl rfl rfl rfl (hac.v 5 k_5) (blk_below bl_2 hW) Tryz.underlying24 rfl (by kernel_rfl) rfl,
    fun f s W hW hd hs hz ac hac => opDo_call (args := #[.agg #[.int .i64 b.tab, .slice (some ⟨g1', 0, none⟩) (b.panels.length) (c4'), .int .i64 b.height, .slice (some ⟨g2', 0, none⟩) (b.top.length) (c5'), .slice (some ⟨g3', 0, none⟩) (b.bottom.length) (c6'), .int .i64 b.slot, .bool b.isOpen]]) rfl rfl (by simp [go_sem, hac.e 35 (hd 0 rfl)]) (own_any _ _ _ _ _ _ b W ((ft_0.below hW)).ii ((ft_1.below hW)).ii ((ft_2.below hW)).ii n1 n2 n3) (fun e W' h => by obtain ⟨v, e1, h1, h2⟩ := h; exact ⟨v, e1, h2, (show NwBlk (upd s 1 W.heap.size 1) (b) v W' from by rw [upd_at]; exact h1)⟩),
    fun f s W hW hd hs hz ac hac => opl rfl rfl rfl (hac.v 7 k_7) (blk_below bl_4 hW) Tryz.underlying43 rfl (by kernel_rfl) rfl,
    fun f s W hW hd hs hz ac hac => opv rfl rfl (by simp [go_sem, hac.e 6 k_6, Joins.cell_of_block (blk_below bl_3 hW) 0, Joins.cell_of_block (blk_below bl_3 hW) 1]) rfl,
    fun f s W hW hd hs hz ac hac => by obtain ⟨g40', c43', g41', c44', g42', c45', d1, ⟨q46', q48', q47'⟩, ⟨q49', q51', q50'⟩, ⟨q52', q54', q53'⟩⟩ := (hd 1 rfl); exact opDo_call (args := #[.agg #[.int .i64 b.tab, .slice (some ⟨g40', 0, none⟩) (b.panels.length) (c43'), .int .i64 b.height, .slice (some ⟨g41', 0, none⟩) (b.top.length) (c44'), .slice (some ⟨g42', 0, none⟩) (b.bottom.length) (c45'), .int .i64 b.slot, .bool b.isOpen], .agg #[.int .i64 vi.length.1, .int .i64 vi.length.2, .int .i64 vi.width.1, .int .i64 vi.width.2, .int .i64 vi.height.1, .int .i64 vi.height.2, .int .i64 vi.outer.1, .int .i64 vi.outer.2, .int .i64 vi.inner.1, .int .i64 vi.inner.2, .bool vi.isOpen], .agg #[.int .i64 lo, .int .i64 hi]]) rfl rfl (by simp [go_sem, hac.e 36 d1, hac.e 37 (hd 2 rfl), hac.e 38 (hd 3 rfl)]) (close_ok vi lo hi W ⟨_, _, _, _, _, _, _, _, _, rfl, q46', q49', q52'⟩ hck hwi j1 j2 j3) ((fun e W' h => by obtain ⟨x, e1, h1, h2⟩ := h; rw [hL] at h1; exact ⟨_, e1, h2, _, rfl, h1⟩)),
    fun f s W hW hd hs hz ac hac => opv (v := (f 4)) rfl rfl (by simp [go_sem, (hac.at' 39 rfl : ac.tmps[39]?.getD undef = f 4)] <;> rfl) (hd 4 rfl),
    fun f s W hW hd hs hz ac hac => by obtain ⟨x5_0, d5, p5_0⟩ := (hd 5 rfl); exact opv (v := x5_0) rfl rfl (by simp [go_sem, hac.e 34 d5]) p5_0,
    fun f s W hW hd hs hz ac hac => by obtain ⟨x5_0, d5, p5_0⟩ := (hd 5 rfl); exact opv rfl rfl (by simp [go_sem, hac.e 34 d5]) rfl,
    fun f s W hW hd hs hz ac hac => opv (v := (f 6)) rfl rfl (by simp [go_sem, (hac.at' 40 rfl : ac.tmps[40]?.getD undef = f 6)] <;> rfl) (hd 6 rfl),
    fun f s W hW hd hs hz ac hac => opv rfl rfl (by simp [go_sem, hac.e 41 (hd 7 rfl)]) rfl, trivial⟩ ?_
  intro f7 s7 W7 hB7
  have fB7 : Below w.heap.size w W7 := below_trans fB_ hB7.below
  have z7 : W_.heap.size ≤ W7.heap.size := hB7.below.size
  have b7_0 := blk_below bl_0 hB7.below
  have b7_1 := blk_below bl_1 hB7.below
  have b7_2 := blk_below bl_2 hB7.below
  have b7_3 := blk_below bl_3 hB7.below
  have b7_4 := blk_below bl_4 hB7.below
  have q58' := (ft_0.below hB7.below)
  have q59' := (ft_1.below hB7.below)
  have q60' := (ft_2.below hB7.below)
  obtain ⟨a61', c62', r7_8, q63'⟩ := hB7.is 8
  have lim64' := Pp.lim q63'
  refine hK4 _ _ ?_
  generalize hg7 : ov [(35, 0), (36, 1), (37, 2), (38, 3), (39, 4), (34, 5), (40, 6), (41, 7), (8, 8), (9, 9)] f7 g_ = g7
  have k7_4 := kt hg7 4 k_4
  have k7_5 := kt hg7 5 k_5
  have k7_6 := kt hg7 6 k_6
  have k7_7 := kt hg7 7 k_7
  have k7_8 := kt hg7 8 r7_8
  have k7_9 := kt hg7 9 (hB7.is 9)
  exact named_main_c4 x y gx gy b d t vi lo hi lo' hi' F q1 q2 L w hbx hby hcx hcy ht hto hv hck hkd hkt hwi j1 j2 j3 j4 j5 j6 hL hF hq n1 n2 n3 hFd hzz hasc hnam hcb hcg hcs1 hcs2 hcz g7 W7 bk1 bk2 bk4 a61' c62' g1' c4' g2' c5' g3' c6' bk3 bk0 k7_4 k7_5 k7_6 k7_7 k7_8 k7_9 fB7 b7_0 b7_1 b7_2 b7_3 b7_4 q58' q59' q60' q63' (by omega) (by omega) (by omega) (by omega) (by omega) (by omega) (by omega) (by omega) (by omega) (by omega) (by omega) (by omega) (by omega) (by omega) (by omega)
end Go.Proofs.YthnediamopehfaaGreat
namespace Go.Proofs.YthnediamopehfaaGreat
open Go.RowKit
set_option maxRecDepth 100000 in
set_option maxHeartbeats 40000000 in
theorem named_main_c2 (x y : Sh) (gx : ShIn x) (gy : ShIn y) (b d t : Bl) (vi : Wi) (lo hi lo' hi' F q1 q2 : Int) (L : List Sp) (w : World) (hbx : shBl x = b) (hby : shBl y = d) (hcx : shCal x = (lo, hi)) (hcy : shCal y = (lo', hi')) (ht : twinB d = t) (hto : t.isOpen = vi.isOpen) (hv : wishOf y t lo' hi' = vi) (hck : checkErr b = 0) (hkd : checkErr d = 0) (hkt : checkErr t = 0) (hwi : wishErr vi = 0) (j1 : 1 ≤ lo) (j2 : lo ≤ hi) (j3 : hi ≤ 10000) (j4 : 1 ≤ lo') (j5 : lo' ≤ hi') (j6 : hi' ≤ 10000) (hL : closeL b vi (lo, hi) = L) (hF : calErr b vi = F) (hq : calOf b vi = (q1, q2)) (n1 : b.panels.length ≤ 1000) (n2 : b.top.length ≤ 1000) (n3 : b.bottom.length ≤ 1000) (hFd : (F != 0) = true → (F != 7) = false) (hzz : ((L.length : Int) == 0) = (((F == 0) && decide (q1 ≤ lo)) && decide (hi ≤ q2))) (hasc : ∀ i : Nat, i < L.length → 0 < (i : Int) → ¬ (nthP L i).1 ≤ (nthP L (i - 1)).1) (hnam : ∀ i : Nat, i < L.length → (0 ≤ (nthP L i).1 ∧ (nthP L i).1 ≤ 9) ∧ (lo ≤ (nthP L i).2 ∧ (nthP L i).2 ≤ hi) ∧ namedB (closeL b vi ((nthP L i).2, (nthP L i).2)) (nthP L i).1 = true ∧ (lo < (nthP L i).2 → namedB (closeL b vi (lo, (nthP L i).2 - 1)) (nthP L i).1 = false)) (hcb : F ≠ 0 → q1 = 0 ∧ q2 = 0) (hcg : F = 0 → 1 ≤ q1 ∧ q2 ≤ 10000 ∧ q1 ≤ q2) (hcs1 : F = 0 → 1 ≤ q1 - 1 ∧ q1 - 1 ≤ 10000 → (((closeL b vi (q1 - 1, q1 - 1)).length : Int) == 0) = false) (hcs2 : F = 0 → 1 ≤ q2 + 1 ∧ q2 + 1 ≤ 10000 → (((closeL b vi (q2 + 1, q2 + 1)).length : Int) == 0) = false) (hcz : F = 0 → (((closeL b vi (q1, q2)).length : Int) == 0) = true) (g_ : Nat → Value) (W_ : World) (bk0 : Nat) (g1' : Nat) (c4' : Nat) (g2' : Nat) (c5' : Nat) (g3' : Nat) (c6' : Nat) (bk1 : Nat) (bk2 : Nat) (bk3 : Nat)  (k_3 : g_ 3 = .pointer (some ⟨bk0, 0, none⟩)) (k_4 : g_ 4 = .bool false) (k_5 : g_ 5 = .pointer (some ⟨bk1, 0, none⟩)) (k_6 : g_ 6 = .pointer (some ⟨bk2, 0, none⟩)) (fB_ : Below w.heap.size w W_) (bl_0 : W_.heap[bk3]? = some (.cells #[.int .u8 x.x0, .int .u8 x.x1, .int .u8 x.x2, .int .u8 x.x3, .int .u8 x.xh, .int .u8 x.y0, .int .u8 x.y1, .int .u8 x.y2, .int .u8 x.y3, .bool x.xo, .int .u8 x.ca, .int .u8 x.cb, .int .u8 x.v0, .int .u8 x.v1, .int .u8 x.v2, .int .u8 x.v3, .int .u8 x.v4] 72 (0, 0))) (bl_1 : W_.heap[bk0]? = some (.cells #[.int .u8 y.x0, .int .u8 y.x1, .int .u8 y.x2, .int .u8 y.x3, .int .u8 y.xh, .int .u8 y.y0, .int .u8 y.y1, .int .u8 y.y2, .int .u8 y.y3, .bool y.xo, .int .u8 y.ca, .int .u8 y.cb, .int .u8 y.v0, .int .u8 y.v1, .int .u8 y.v2, .int .u8 y.v3, .int .u8 y.v4] 72 (0, 0))) (bl_2 : W_.heap[bk1]? = some (.cells #[.int .i64 b.tab, .slice (some ⟨g1', 0, none⟩) (b.panels.length) (c4'), .int .i64 b.height, .slice (some ⟨g2', 0, none⟩) (b.top.length) (c5'), .slice (some ⟨g3', 0, none⟩) (b.bottom.length) (c6'), .int .i64 b.slot, .bool b.isOpen] 24 (0, 0))) (bl_3 : W_.heap[bk2]? = some (.cells #[.int .i64 lo, .int .i64 hi] 26 (0, 0))) (ft_0 : OwnI 0 b.panels g1' c4' W_) (ft_1 : OwnI 0 b.top g2' c5' W_) (ft_2 : OwnI 0 b.bottom g3' c6' W_) (lw_bk3 : w.heap.size ≤ bk3) (lw_bk0 : w.heap.size ≤ bk0) (lw_bk1 : w.heap.size ≤ bk1) (lw_bk2 : w.heap.size ≤ bk2) (ne_0_1 : bk3 ≠ bk0) (ne_0_2 : bk3 ≠ bk1) (ne_1_2 : bk0 ≠ bk1) (ne_0_3 : bk3 ≠ bk2) (ne_1_3 : bk0 ≠ bk2) (ne_2_3 : bk1 ≠ bk2) :
    (tailC 2 (bodyC Tryz.f8)).wp Tryz.prog (bodyPost Tryz.prog Tryz.f8 (fun e w' => e = .returned (.bool true) ∧ Below w.heap.size w w')) (fr 281 g_) W_ := by
  have hll0 := hck
  have lt_bk3 := lt_of_blk bl_0
  have lt_bk0 := lt_of_blk bl_1
  have lt_bk1 := lt_of_blk bl_2
  have lt_bk2 := lt_of_blk bl_3
  refine wp_seq_k fun K3 hK3 => ?_
  as_aux_lemma =>
  refine region_do 8 [(27, 0), (28, 1), (29, 2), (30, 3), (31, 4), (32, 5), (33, 6), (7, 7)] [[], [], [1], [1, 2], [], [1, 2, 3, 4], [0, 1, 2, 3, 4, 5], [], [0, 1, 2, 3, 4, 5, 6, 7]] (rel [is (.agg #[.int .u8 y.x0, .int .u8 y.x1, .int .u8 y.x2, .int .u8 y.x3, .int .u8 y.xh, .int .u8 y.y0, .int .u8 y.y1, .int .u8 y.y2, .int .u8 y.y3, .bool y.xo, .int .u8 y.ca, .int .u8 y.cb, .int .u8 y.v0, .int .u8 y.v1, .int .u8 y.v2, .int .u8 y.v3, .int .u8 y.v4]),
      is (.agg #[.int .u8 y.x0, .int .u8 y.x1, .int .u8 y.x2, .int .u8 y.x3, .int .u8 y.xh, .int .u8 y.y0, .int .u8 y.y1, .int .u8 y.y2, .int .u8 y.y3, .bool y.xo, .int .u8 y.ca, .int .u8 y.cb, .int .u8 y.v0, .int .u8 y.v1, .int .u8 y.v2, .int .u8 y.v3, .int .u8 y.v4]),
      ab fun v W => TyBlk 0 d v W,
      ab fun v W => TyBlk 0 t v W,
      is (.agg #[.int .u8 y.x0, .int .u8 y.x1, .int .u8 y.x2, .int .u8 y.x3, .int .u8 y.xh, .int .u8 y.y0, .int .u8 y.y1, .int .u8 y.y2, .int .u8 y.y3, .bool y.xo, .int .u8 y.ca, .int .u8 y.cb, .int .u8 y.v0, .int .u8 y.v1, .int .u8 y.v2, .int .u8 y.v3, .int .u8 y.v4]),
      is (.agg #[.int .i64 (lo'), .int .i64 (hi')]),
      is (.agg #[.int .i64 vi.length.1, .int .i64 vi.length.2, .int .i64 vi.width.1, .int .i64 vi.width.2, .int .i64 vi.height.1, .int .i64 vi.height.2, .int .i64 vi.outer.1, .int .i64 vi.outer.2, .int .i64 vi.inner.1, .int .i64 vi.inner.2, .bool vi.isOpen]),
      bx 7 #[.int .i64 0, .int .i64 0, .int .i64 0, .int .i64 0, .int .i64 0, .int .i64 0, .int .i64 0, .int .i64 0, .int .i64 0, .int .i64 0, .bool false] 43]) (by kernel_rfl) (by kernel_rfl) (by kernel_rfl) (by kernel_rfl)
    ⟨is_k, is_k, ab_k fun v W W' hb h => h.below hb, ab_k fun v W W' hb h => h.below hb, is_k, is_k, is_k, bx_k, trivial⟩
    ⟨fun f s W hW hd hs hz ac hac => opl rfl rfl rfl (hac.v 3 k_3) (blk_below bl_1 hW) Tryz.underlying72 rfl (by kernel_rfl) rfl,
    fun f s W hW hd hs hz ac hac => opl rfl rfl rfl (hac.v 3 k_3) (blk_below bl_1 hW) Tryz.underlying72 rfl (by kernel_rfl) rfl,
    fun f s W hW hd hs hz ac hac => opDo_call (args := #[.agg #[.int .u8 y.x0, .int .u8 y.x1, .int .u8 y.x2, .int .u8 y.x3, .int .u8 y.xh, .int .u8 y.y0, .int .u8 y.y1, .int .u8 y.y2, .int .u8 y.y3, .bool y.xo, .int .u8 y.ca, .int .u8 y.cb, .int .u8 y.v0, .int .u8 y.v1, .int .u8 y.v2, .int .u8 y.v3, .int .u8 y.v4]]) rfl rfl (by simp [go_sem, hac.e 28 (hd 1 rfl)]) ((hby ▸ sheet_b y gy W : Calls _ _ _ W (TyBlkP d W))) ((fun e W' h => by obtain ⟨v, e1, h1, h2⟩ := h; exact ⟨_, e1, h2, h1.low (Nat.zero_le _)⟩)),
    fun f s W hW hd hs hz ac hac => by obtain ⟨g16', c19', g17', c20', g18', c21', d2, q22', q23', q24'⟩ := (hd 2 rfl); exact opDo_call (args := #[.agg #[.int .i64 d.tab, .slice (some ⟨g16', 0, none⟩) (d.panels.length) (c19'), .int .i64 d.height, .slice (some ⟨g17', 0, none⟩) (d.top.length) (c20'), .slice (some ⟨g18', 0, none⟩) (d.bottom.length) (c21'), .int .i64 d.slot, .bool d.isOpen]]) rfl rfl (by simp [go_sem, hac.e 29 d2]) (twin_ty d W ⟨_, _, _, _, _, _, rfl, q22', q23', q24'⟩ hkd) ((fun e W' h => by obtain ⟨v, e1, h1, h2⟩ := h; rw [ht] at h1; exact ⟨_, e1, h2, h1⟩)),
    fun f s W hW hd hs hz ac hac => opl rfl rfl rfl (hac.v 3 k_3) (blk_below bl_1 hW) Tryz.underlying72 rfl (by kernel_rfl) rfl,
    fun f s W hW hd hs hz ac hac => opDo_call rfl rfl (by simp [go_sem, hac.e 31 (hd 4 rfl)]) (sheet_c y gy W) ((fun e W' h => by have h1 := h.1; rw [hcy] at h1; exact ⟨_, h1, h.2, rfl⟩)),
    fun f s W hW hd hs hz ac hac => by obtain ⟨g25', c28', g26', c29', g27', c30', d3, q31', q32', q33'⟩ := (hd 3 rfl); exact opDo_call (args := #[.agg #[.int .u8 y.x0, .int .u8 y.x1, .int .u8 y.x2, .int .u8 y.x3, .int .u8 y.xh, .int .u8 y.y0, .int .u8 y.y1, .int .u8 y.y2, .int .u8 y.y3, .bool y.xo, .int .u8 y.ca, .int .u8 y.cb, .int .u8 y.v0, .int .u8 y.v1, .int .u8 y.v2, .int .u8 y.v3, .int .u8 y.v4], .agg #[.int .i64 t.tab, .slice (some ⟨g25', 0, none⟩) (t.panels.length) (c28'), .int .i64 t.height, .slice (some ⟨g26', 0, none⟩) (t.top.length) (c29'), .slice (some ⟨g27', 0, none⟩) (t.bottom.length) (c30'), .int .i64 t.slot, .bool t.isOpen], .agg #[.int .i64 (lo'), .int .i64 (hi')]]) rfl rfl (by simp [go_sem, hac.e 27 (hd 0 rfl), hac.e 30 d3, hac.e 32 (hd 5 rfl)]) (wished_blk y gy _ _ _ _ _ _ t lo' hi' W q31'.ii q32'.ii q33'.ii hkt (by omega) (by omega)) ((fun e W' h => by have h1 := h.1; rw [hto, hv] at h1; exact ⟨_, h1, h.2, rfl⟩)),
    fun f s W hW hd hs hz ac hac => opb rfl rfl (by simp [go_sem]), trivial⟩ ?_
  intro f5 s5 W5 hB5
  have fB5 : Below w.heap.size w W5 := below_trans fB_ hB5.below
  have z5 : W_.heap.size ≤ W5.heap.size := hB5.below.size
  have b5_0 := blk_below bl_0 hB5.below
  have b5_1 := blk_below bl_1 hB5.below
  have b5_2 := blk_below bl_2 hB5.below
  have b5_3 := blk_below bl_3 hB5.below
  have q34' := (ft_0.below hB5.below)
  have q35' := (ft_1.below hB5.below)
  have q36' := (ft_2.below hB5.below)
  obtain ⟨r5_7, br5_7⟩ := hB5.is 7
  have lr5_7 : W_.heap.size ≤ s5 7 ∧ s5 7 < W5.heap.size := ⟨hB5.from' 7 (by decide), lt_of_blk br5_7⟩
  generalize hg5 : ov [(27, 0), (28, 1), (29, 2), (30, 3), (31, 4), (32, 5), (33, 6), (7, 7)] f5 g_ = g5
  have k5_4 := kt hg5 4 k_4
  have k5_5 := kt hg5 5 k_5
  have k5_6 := kt hg5 6 k_6
  have k5_33 := kt hg5 33 (hB5.is 6)
  have k5_7 := kt hg5 7 r5_7
  obtain ⟨W6, hW6⟩ : ∃ W', W' = W5.setRow (s5 7) #[.int .i64 vi.length.1, .int .i64 vi.length.2, .int .i64 vi.width.1, .int .i64 vi.width.2, .int .i64 vi.height.1, .int .i64 vi.height.2, .int .i64 vi.outer.1, .int .i64 vi.outer.2, .int .i64 vi.inner.1, .int .i64 vi.inner.2, .bool vi.isOpen] := ⟨_, rfl⟩
  refine tail_skip (o := _) rfl ⟨rfl, rfl⟩ (run_seg hW6 (fr_ev k5_7) (fr_ev k5_33) br5_7 rfl rfl rfl rfl) ?_
  obtain ⟨fB6, nb6, ot6, z6⟩ := seg_facts hW6 fB5 br5_7 (by omega)
  clear hW6
  have b6_0 := ot6 _ _ (by omega) b5_0
  have b6_1 := ot6 _ _ (by omega) b5_1
  have b6_2 := ot6 _ _ (by omega) b5_2
  have b6_3 := ot6 _ _ (by omega) b5_3
  have q37' := q34'.other ot6 (own_ne q34' br5_7) z6
  have q38' := q35'.other ot6 (own_ne q35' br5_7) z6
  have q39' := q36'.other ot6 (own_ne q36' br5_7) z6
  refine wpOps_end ?_
  refine hK3 _ _ ?_
  exact named_main_c3 x y gx gy b d t vi lo hi lo' hi' F q1 q2 L w hbx hby hcx hcy ht hto hv hck hkd hkt hwi j1 j2 j3 j4 j5 j6 hL hF hq n1 n2 n3 hFd hzz hasc hnam hcb hcg hcs1 hcs2 hcz g5 W6 bk1 bk2 (s5 7) g1' c4' g2' c5' g3' c6' bk3 bk0 k5_4 k5_5 k5_6 k5_7 fB6 b6_0 b6_1 b6_2 b6_3 nb6 q37' q38' q39' (by omega) (by omega) (by omega) (by omega) (by omega) (by omega) (by omega) (by omega) (by omega) (by omega) (by omega) (by omega) (by omega) (by omega) (by omega)
end Go.Proofs.YthnediamopehfaaGreat
namespace Go.Proofs.YthnediamopehfaaGreat
open Go.RowKit
set_option maxRecDepth 100000 in
set_option maxHeartbeats 40000000 in
theorem named_main (x y : Sh) (gx : ShIn x) (gy : ShIn y) (b d t : Bl) (vi : Wi) (lo hi lo' hi' F q1 q2 : Int) (L : List Sp) (w : World) (hbx : shBl x = b) (hby : shBl y = d) (hcx : shCal x = (lo, hi)) (hcy : shCal y = (lo', hi')) (ht : twinB d = t) (hto : t.isOpen = vi.isOpen) (hv : wishOf y t lo' hi' = vi) (hck : checkErr b = 0) (hkd : checkErr d = 0) (hkt : checkErr t = 0) (hwi : wishErr vi = 0) (j1 : 1 ≤ lo) (j2 : lo ≤ hi) (j3 : hi ≤ 10000) (j4 : 1 ≤ lo') (j5 : lo' ≤ hi') (j6 : hi' ≤ 10000) (hL : closeL b vi (lo, hi) = L) (hF : calErr b vi = F) (hq : calOf b vi = (q1, q2)) (n1 : b.panels.length ≤ 1000) (n2 : b.top.length ≤ 1000) (n3 : b.bottom.length ≤ 1000) (hFd : (F != 0) = true → (F != 7) = false) (hzz : ((L.length : Int) == 0) = (((F == 0) && decide (q1 ≤ lo)) && decide (hi ≤ q2))) (hasc : ∀ i : Nat, i < L.length → 0 < (i : Int) → ¬ (nthP L i).1 ≤ (nthP L (i - 1)).1) (hnam : ∀ i : Nat, i < L.length → (0 ≤ (nthP L i).1 ∧ (nthP L i).1 ≤ 9) ∧ (lo ≤ (nthP L i).2 ∧ (nthP L i).2 ≤ hi) ∧ namedB (closeL b vi ((nthP L i).2, (nthP L i).2)) (nthP L i).1 = true ∧ (lo < (nthP L i).2 → namedB (closeL b vi (lo, (nthP L i).2 - 1)) (nthP L i).1 = false)) (hcb : F ≠ 0 → q1 = 0 ∧ q2 = 0) (hcg : F = 0 → 1 ≤ q1 ∧ q2 ≤ 10000 ∧ q1 ≤ q2) (hcs1 : F = 0 → 1 ≤ q1 - 1 ∧ q1 - 1 ≤ 10000 → (((closeL b vi (q1 - 1, q1 - 1)).length : Int) == 0) = false) (hcs2 : F = 0 → 1 ≤ q2 + 1 ∧ q2 + 1 ≤ 10000 → (((closeL b vi (q2 + 1, q2 + 1)).length : Int) == 0) = false) (hcz : F = 0 → (((closeL b vi (q1, q2)).length : Int) == 0) = true) :
  Calls Tryz.prog 8 #[.agg #[.int .u8 x.x0, .int .u8 x.x1, .int .u8 x.x2, .int .u8 x.x3, .int .u8 x.xh, .int .u8 x.y0, .int .u8 x.y1, .int .u8 x.y2, .int .u8 x.y3, .bool x.xo, .int .u8 x.ca, .int .u8 x.cb, .int .u8 x.v0, .int .u8 x.v1, .int .u8 x.v2, .int .u8 x.v3, .int .u8 x.v4], .agg #[.int .u8 y.x0, .int .u8 y.x1, .int .u8 y.x2, .int .u8 y.x3, .int .u8 y.xh, .int .u8 y.y0, .int .u8 y.y1, .int .u8 y.y2, .int .u8 y.y3, .bool y.xo, .int .u8 y.ca, .int .u8 y.cb, .int .u8 y.v0, .int .u8 y.v1, .int .u8 y.v2, .int .u8 y.v3, .int .u8 y.v4]] w (fun e w' => e = .returned (.bool true) ∧ Below w.heap.size w w') := by
 have hll0 := hck
 refine calls_fr Tryz.func8 Tryz.ntmps8 rfl rfl fun g hg => ?_
 have k0 : g 0 = .agg #[.int .u8 x.x0, .int .u8 x.x1, .int .u8 x.x2, .int .u8 x.x3, .int .u8 x.xh, .int .u8 x.y0, .int .u8 x.y1, .int .u8 x.y2, .int .u8 x.y3, .bool x.xo, .int .u8 x.ca, .int .u8 x.cb, .int .u8 x.v0, .int .u8 x.v1, .int .u8 x.v2, .int .u8 x.v3, .int .u8 x.v4] := hg 0
 have k1 : g 1 = .agg #[.int .u8 y.x0, .int .u8 y.x1, .int .u8 y.x2, .int .u8 y.x3, .int .u8 y.xh, .int .u8 y.y0, .int .u8 y.y1, .int .u8 y.y2, .int .u8 y.y3, .bool y.xo, .int .u8 y.ca, .int .u8 y.cb, .int .u8 y.v0, .int .u8 y.v1, .int .u8 y.v2, .int .u8 y.v3, .int .u8 y.v4] := hg 1
 clear hg
 have fB0 : Below w.heap.size w w := Below.refl _ _
 refine wp_seq_k fun K1 hK1 => ?_
 as_aux_lemma =>
 refine region_dk 3 [(2, 0), (3, 1), (4, 2)] [[], [], []] (rel [bx 0 #[.int .u8 x.x0, .int .u8 x.x1, .int .u8 x.x2, .int .u8 x.x3, .int .u8 x.xh, .int .u8 x.y0, .int .u8 x.y1, .int .u8 x.y2, .int .u8 x.y3, .bool x.xo, .int .u8 x.ca, .int .u8 x.cb, .int .u8 x.v0, .int .u8 x.v1, .int .u8 x.v2, .int .u8 x.v3, .int .u8 x.v4] 72,
   bx 1 #[.int .u8 y.x0, .int .u8 y.x1, .int .u8 y.x2, .int .u8 y.x3, .int .u8 y.xh, .int .u8 y.y0, .int .u8 y.y1, .int .u8 y.y2, .int .u8 y.y3, .bool y.xo, .int .u8 y.ca, .int .u8 y.cb, .int .u8 y.v0, .int .u8 y.v1, .int .u8 y.v2, .int .u8 y.v3, .int .u8 y.v4] 72,
   is (.bool false)])
  ⟨bx_k, bx_k, is_k, trivial⟩
  ⟨fun f s W c j k l m a => opb rfl rfl (by simp [go_sem, a.e 0 k0]),
  fun f s W c j k l m a => opb rfl rfl (by simp [go_sem, a.e 1 k1]),
  fun f s W c j k l m a => opv rfl rfl (by simp [go_sem]) rfl, trivial⟩ ?_
 intro f1 s1 W1 hB1 g1 hg1
 have fB1 := hB1.f fB0
 have z1 := hB1.below.size
 obtain ⟨r1_0, br1_0⟩ := hB1.is 0
 have lr1_0 := hB1.lr 0 br1_0
 obtain ⟨r1_1, br1_1⟩ := hB1.is 1
 have lr1_1 := hB1.lr 1 br1_1
 have ne1_0_1 := hB1.nb 0 1
 refine hK1 _ _ ?_
 have k1_2 := kt hg1 2 r1_0
 have k1_3 := kt hg1 3 r1_1
 have k1_4 := kt hg1 4 (hB1.is 2)
 refine wp_seq_k fun K2 hK2 => ?_
 as_aux_lemma =>
 refine region_dk 6 [(23, 0), (24, 1), (25, 2), (26, 3), (5, 4), (6, 5)] [[], [0], [], [0, 1, 2], [], [], [0, 1, 2, 3, 4, 5], [0, 1, 2, 3, 4, 5, 6]] (rel [is (.agg #[.int .u8 x.x0, .int .u8 x.x1, .int .u8 x.x2, .int .u8 x.x3, .int .u8 x.xh, .int .u8 x.y0, .int .u8 x.y1, .int .u8 x.y2, .int .u8 x.y3, .bool x.xo, .int .u8 x.ca, .int .u8 x.cb, .int .u8 x.v0, .int .u8 x.v1, .int .u8 x.v2, .int .u8 x.v3, .int .u8 x.v4]),
   ab fun v W => TyBlk 0 b v W,
   is (.agg #[.int .u8 x.x0, .int .u8 x.x1, .int .u8 x.x2, .int .u8 x.x3, .int .u8 x.xh, .int .u8 x.y0, .int .u8 x.y1, .int .u8 x.y2, .int .u8 x.y3, .bool x.xo, .int .u8 x.ca, .int .u8 x.cb, .int .u8 x.v0, .int .u8 x.v1, .int .u8 x.v2, .int .u8 x.v3, .int .u8 x.v4]),
   is (.agg #[.int .i64 lo, .int .i64 hi]),
   bx 4 #[.int .i64 0, .slice (none) (0) (0), .int .i64 0, .slice (none) (0) (0), .slice (none) (0) (0), .int .i64 0, .bool false] 24,
   bx 5 #[.int .i64 0, .int .i64 0] 26])
  ⟨is_k, ab_k fun v W W' hb h => h.below hb, is_k, is_k, bx_k, bx_k, trivial⟩
  ⟨fun f s W c j k l m a => opl rfl rfl rfl (a.v 2 k1_2) (blk_below br1_0 c) Tryz.underlying72 rfl (by kernel_rfl) rfl,
  fun f s W c j k l m a => opDo_call (args := #[.agg #[.int .u8 x.x0, .int .u8 x.x1, .int .u8 x.x2, .int .u8 x.x3, .int .u8 x.xh, .int .u8 x.y0, .int .u8 x.y1, .int .u8 x.y2, .int .u8 x.y3, .bool x.xo, .int .u8 x.ca, .int .u8 x.cb, .int .u8 x.v0, .int .u8 x.v1, .int .u8 x.v2, .int .u8 x.v3, .int .u8 x.v4]]) rfl rfl (by simp [go_sem, a.e 23 (j 0 rfl)]) ((hbx ▸ sheet_b x gx W : Calls _ _ _ W (TyBlkP b W))) ((fun e W' h => by obtain ⟨v, e1, h1, h2⟩ := h; exact ⟨_, e1, h2, h1.low (Nat.zero_le _)⟩)),
  fun f s W c j k l m a => opl rfl rfl rfl (a.v 2 k1_2) (blk_below br1_0 c) Tryz.underlying72 rfl (by kernel_rfl) rfl,
  fun f s W c j k l m a => opDo_call rfl rfl (by simp [go_sem, a.e 25 (j 2 rfl)]) (sheet_c x gx W) ((fun e W' h => by have h1 := h.1; rw [hcx] at h1; exact ⟨_, h1, h.2, rfl⟩)),
  fun f s W c j k l m a => opb rfl rfl (by simp [go_sem]),
  fun f s W c j k l m a => opb rfl rfl (by simp [go_sem]), trivial⟩ ?_
 intro f2 s2 W2 hB2 g2 hg2
 have fB2 := hB2.f fB1
 have z2 := hB2.below.size
 have b2_0 := hB2.b br1_0
 have b2_1 := hB2.b br1_1
 obtain ⟨g1', c4', g2', c5', g3', c6', r2_1, q7', q8', q9'⟩ := hB2.is 1
 obtain ⟨r2_4, br2_4⟩ := hB2.is 4
 have lr2_4 := hB2.lr 4 br2_4
 obtain ⟨r2_5, br2_5⟩ := hB2.is 5
 have lr2_5 := hB2.lr 5 br2_5
 have ne2_4_5 := hB2.nb 4 5
 have k2_3 := kt hg2 3 k1_3
 have k2_4 := kt hg2 4 k1_4
 have k2_24 := kt hg2 24 r2_1
 have k2_26 := kt hg2 26 (hB2.is 3)
 have k2_5 := kt hg2 5 r2_4
 have k2_6 := kt hg2 6 r2_5
 obtain ⟨W3, hW3⟩ : ∃ W', W' = W2.setRow (s2 4) #[.int .i64 b.tab, .slice (some ⟨g1', 0, none⟩) (b.panels.length) (c4'), .int .i64 b.height, .slice (some ⟨g2', 0, none⟩) (b.top.length) (c5'), .slice (some ⟨g3', 0, none⟩) (b.bottom.length) (c6'), .int .i64 b.slot, .bool b.isOpen] := ⟨_, rfl⟩
 refine tail_skip (o := _) rfl ⟨rfl, rfl⟩ (run_seg hW3 (fr_ev k2_5) (fr_ev k2_24) br2_4 rfl rfl rfl rfl) ?_
 obtain ⟨fB3, nb3, ot3, z3⟩ := seg_facts hW3 fB2 br2_4 (by omega)
 clear hW3
 have b3_0 := ot3 _ _ (by omega) b2_0
 have b3_1 := ot3 _ _ (by omega) b2_1
 have b3_3 := ot3 _ _ (by omega) br2_5
 have q10' := q7'.other ot3 (own_ne q7' br2_4) z3
 have q11' := q8'.other ot3 (own_ne q8' br2_4) z3
 have q12' := q9'.other ot3 (own_ne q9' br2_4) z3
 obtain ⟨W4, hW4⟩ : ∃ W', W' = W3.setRow (s2 5) #[.int .i64 lo, .int .i64 hi] := ⟨_, rfl⟩
 refine tail_skip (o := _) rfl ⟨rfl, rfl⟩ (run_seg hW4 (fr_ev k2_6) (fr_ev k2_26) b3_3 rfl rfl rfl rfl) ?_
 obtain ⟨fB4, nb4, ot4, z4⟩ := seg_facts hW4 fB3 b3_3 (by omega)
 clear hW4
 have b4_0 := ot4 _ _ (by omega) b3_0
 have b4_1 := ot4 _ _ (by omega) b3_1
 have b4_2 := ot4 _ _ (by omega) nb3
 have q13' := q10'.other ot4 (own_ne q10' b3_3) z4
 have q14' := q11'.other ot4 (own_ne q11' b3_3) z4
 have q15' := q12'.other ot4 (own_ne q12' b3_3) z4
 refine wpOps_end ?_
 refine hK2 _ _ ?_
 exact named_main_c2 x y gx gy b d t vi lo hi lo' hi' F q1 q2 L w hbx hby hcx hcy ht hto hv hck hkd hkt hwi j1 j2 j3 j4 j5 j6 hL hF hq n1 n2 n3 hFd hzz hasc hnam hcb hcg hcs1 hcs2 hcz g2 W4 (s1 1) g1' c4' g2' c5' g3' c6' (s2 4) (s2 5) (s1 0) k2_3 k2_4 k2_5 k2_6 fB4 b4_0 b4_1 b4_2 nb4 q13' q14' q15' (by omega) (by omega) (by omega) (by omega) (by omega) (by omega) (by omega) (by omega) (by omega) (by omega)
theorem named_law (x y : Sh) (gx : ShIn x) (gy : ShIn y) (w : World) : Calls Tryz.prog 8 #[.agg #[.int .u8 x.x0, .int .u8 x.x1, .int .u8 x.x2, .int .u8 x.x3, .int .u8 x.xh, .int .u8 x.y0, .int .u8 x.y1, .int .u8 x.y2, .int .u8 x.y3, .bool x.xo, .int .u8 x.ca, .int .u8 x.cb, .int .u8 x.v0, .int .u8 x.v1, .int .u8 x.v2, .int .u8 x.v3, .int .u8 x.v4], .agg #[.int .u8 y.x0, .int .u8 y.x1, .int .u8 y.x2, .int .u8 y.x3, .int .u8 y.xh, .int .u8 y.y0, .int .u8 y.y1, .int .u8 y.y2, .int .u8 y.y3, .bool y.xo, .int .u8 y.ca, .int .u8 y.cb, .int .u8 y.v0, .int .u8 y.v1, .int .u8 y.v2, .int .u8 y.v3, .int .u8 y.v4]] w (fun e w' => e = .returned (.bool true) ∧ Below w.heap.size w w') := by
  have hck := shBl_ok gx
  have hkd := shBl_ok gy
  have hkt := twin_ok hkd
  obtain ⟨c1, c2, c3⟩ := shCal_in gx
  obtain ⟨c4, c5, c6⟩ := shCal_in gy
  have hwi := wish_ok y (twinB (shBl y)) c5
  have hn := wished_nil hck hwi
  have ho := cal_or hn
  generalize hv : wishOf y (twinB (shBl y)) (shCal y).1 (shCal y).2 = v at *
  refine named_main x y gx gy (shBl x) (shBl y) (twinB (shBl y)) v (shCal x).1 (shCal x).2 (shCal y).1 (shCal y).2 (calErr (shBl x) v) (calOf (shBl x) v).1 (calOf (shBl x) v).2 (closeL (shBl x) v ((shCal x).1, (shCal x).2)) w rfl rfl rfl rfl rfl (by rw [← hv]; rfl) hv hck hkd hkt hwi c1 c2 c3 c4 c5 c6 rfl rfl rfl
    (by show 4 ≤ 1000; decide) (by show 2 ≤ 1000; decide) (by show 2 ≤ 1000; decide) (fun h => by rcases ho with e | e <;> rw [e] at h ⊢ <;> first | rfl | exact absurd h (by decide)) ?_ (fun i hi h0 => close_asc hi (by omega)) (fun i hi => close_named c2 hi)
    (fun h => by rw [cal_bad h]; exact ⟨rfl, rfl⟩) (fun h => ⟨(cal_in h).1, (cal_in h).2.1, (cal_in h).2.2 hn⟩)
    (fun h h1 => len_ne (close_beside hck hwi h1.1 h1.2 (.inl (by omega)))) (fun h h1 => len_ne (close_beside hck hwi h1.1 h1.2 (.inr (by omega))))
    (fun h => len_zero.2 ((close_cal hck hwi (cal_in h).1 ((cal_in h).2.2 hn) (cal_in h).2.1).2 ⟨h, Int.le_refl _, Int.le_refl _⟩))
  rw [Bool.eq_iff_iff, len_zero, close_cal hck hwi c1 c2 c3]
  simp [and_assoc]
end Go.Proofs.YthnediamopehfaaGreat
namespace Go.Proofs.YthnediamopehfaaGreat
open Go.ChangeShapes Go.WideShapes Go.ChangeAt Go.RowKit
theorem bounds_u8 {n : Int} (h : (Lit.int .u8 n).wf = true) : 0 ≤ n ∧ n ≤ 255 := by
  simp only [Lit.wf, Bool.and_eq_true, decide_eq_true_eq] at h
  exact h
/-- Small whole numbers in an array: each cell is one. -/
theorem open_arr {k : IntKind} {e : TypeId} {H : Type} {enc : TypeId × Value → H} {W : World} {spare : Nat → Bool} {held : Bool} {fuel n : Nat} {t : TypeId} {cs : List Value} {y : DataW H × List MemPlace} (he : Tryz.prog.underlying e = some (.int k)) (hc : Tryz.prog.cellsOf e = 1) (ht : Tryz.prog.underlying t = some (.array n e)) (hf : DataW.trod enc Tryz.prog W 0 spare held fuel t cs = some y) (hn : cs.length = n) :
    ∀ i, i < n → ∃ x, cs[i]? = some (.int k x) ∧ (Lit.int k x).wf = true := by
  obtain ⟨xs, m, _, _, hl, hlen, hel⟩ := DataW.trod_array ht hf
  intro i hi
  have f := hel i hi
  rw [hc, Nat.mul_one] at f
  rw [List.getElem?_eq_getElem (by omega : i < xs.length)] at f
  obtain ⟨x, q, -, wf⟩ := DataW.trod_int he f
  refine ⟨x, ?_, wf⟩
  have h1 : ((cs.drop i).take 1)[0]? = some (.int k x) := by rw [q]; rfl
  simpa using h1
set_option maxRecDepth 100000 in
theorem open_sheet {H : Type} {enc : TypeId × Value → H} {W : World} {r : Reach} {b0 : Nat} {spare : Nat → Bool} {held : Bool} {v : Value} {d : DataW H} {ps : List MemPlace}
    (hv : Value.okWide Tryz.prog W r b0 72 v) (h : DataW.Trod enc Tryz.prog W 0 spare held 72 v d ps) :
    ∃ x : Sh, v = .agg #[.int .u8 x.x0, .int .u8 x.x1, .int .u8 x.x2, .int .u8 x.x3, .int .u8 x.xh, .int .u8 x.y0, .int .u8 x.y1, .int .u8 x.y2, .int .u8 x.y3, .bool x.xo, .int .u8 x.ca, .int .u8 x.cb, .int .u8 x.v0, .int .u8 x.v1, .int .u8 x.v2, .int .u8 x.v3, .int .u8 x.v4] ∧ ShIn x := by
  obtain ⟨cs, rfl, hsz⟩ := okWide_struct Tryz.underlying72 hv
  obtain ⟨fuel, hf⟩ := h
  obtain ⟨xs, n, _, _, hl, hlen, hfld⟩ := DataW.trod_struct Tryz.underlying72 hf
  have e17 : Tryz.prog.cellsOf 72 = 17 := by kernel_rfl
  rw [e17] at hsz
  have a4 : Tryz.prog.cellsOf 68 = 4 := by kernel_rfl
  have a2 : Tryz.prog.cellsOf 69 = 2 := by kernel_rfl
  have a5 : Tryz.prog.cellsOf 70 = 5 := by kernel_rfl
  have u1 : Tryz.prog.cellsOf 5 = 1 := by kernel_rfl
  have o1 : Tryz.prog.cellsOf 4 = 1 := by kernel_rfl
  obtain ⟨l⟩ := cs
  match l, hsz with
  | [c0, c1, c2, c3, c4, c5, c6, c7, c8, c9, c10, c11, c12, c13, c14, c15, c16], _ =>
    match xs, hlen with
    | [y0, y1, y2, y3, y4, y5], _ =>
      have f0 : DataW.trod enc Tryz.prog W 0 spare held n 68 ((List.drop 0 [c0, c1, c2, c3, c4, c5, c6, c7, c8, c9, c10, c11, c12, c13, c14, c15, c16]).take (Tryz.prog.cellsOf 68)) = some y0 := hfld 0 _ rfl
      have f1 : DataW.trod enc Tryz.prog W 0 spare held n 5 ((List.drop 4 [c0, c1, c2, c3, c4, c5, c6, c7, c8, c9, c10, c11, c12, c13, c14, c15, c16]).take (Tryz.prog.cellsOf 5)) = some y1 := hfld 1 _ rfl
      have f2 : DataW.trod enc Tryz.prog W 0 spare held n 68 ((List.drop 5 [c0, c1, c2, c3, c4, c5, c6, c7, c8, c9, c10, c11, c12, c13, c14, c15, c16]).take (Tryz.prog.cellsOf 68)) = some y2 := hfld 2 _ rfl
      have f3 : DataW.trod enc Tryz.prog W 0 spare held n 4 ((List.drop 9 [c0, c1, c2, c3, c4, c5, c6, c7, c8, c9, c10, c11, c12, c13, c14, c15, c16]).take (Tryz.prog.cellsOf 4)) = some y3 := hfld 3 _ rfl
      have f4 : DataW.trod enc Tryz.prog W 0 spare held n 69 ((List.drop 10 [c0, c1, c2, c3, c4, c5, c6, c7, c8, c9, c10, c11, c12, c13, c14, c15, c16]).take (Tryz.prog.cellsOf 69)) = some y4 := hfld 4 _ rfl
      have f5 : DataW.trod enc Tryz.prog W 0 spare held n 70 ((List.drop 12 [c0, c1, c2, c3, c4, c5, c6, c7, c8, c9, c10, c11, c12, c13, c14, c15, c16]).take (Tryz.prog.cellsOf 70)) = some y5 := hfld 5 _ rfl
      rw [a4] at f0; change DataW.trod enc Tryz.prog W 0 spare held n 68 [c0, c1, c2, c3] = some y0 at f0
      rw [u1] at f1; change DataW.trod enc Tryz.prog W 0 spare held n 5 [c4] = some y1 at f1
      rw [a4] at f2; change DataW.trod enc Tryz.prog W 0 spare held n 68 [c5, c6, c7, c8] = some y2 at f2
      rw [o1] at f3; change DataW.trod enc Tryz.prog W 0 spare held n 4 [c9] = some y3 at f3
      rw [a2] at f4; change DataW.trod enc Tryz.prog W 0 spare held n 69 [c10, c11] = some y4 at f4
      rw [a5] at f5; change DataW.trod enc Tryz.prog W 0 spare held n 70 [c12, c13, c14, c15, c16] = some y5 at f5
      have A0 := open_arr Tryz.underlying5 u1 Tryz.underlying68 f0 rfl
      have A2 := open_arr Tryz.underlying5 u1 Tryz.underlying68 f2 rfl
      have A4 := open_arr Tryz.underlying5 u1 Tryz.underlying69 f4 rfl
      have A5 := open_arr Tryz.underlying5 u1 Tryz.underlying70 f5 rfl
      obtain ⟨x0, e0, g0⟩ := A0 0 (by decide)
      obtain ⟨x1, e1, g1⟩ := A0 1 (by decide)
      obtain ⟨x2, e2, g2⟩ := A0 2 (by decide)
      obtain ⟨x3, e3, g3⟩ := A0 3 (by decide)
      obtain ⟨xh, e4, -, g4⟩ := DataW.trod_int Tryz.underlying5 f1
      obtain ⟨z0, e5, g5⟩ := A2 0 (by decide)
      obtain ⟨z1, e6, g6⟩ := A2 1 (by decide)
      obtain ⟨z2, e7, g7⟩ := A2 2 (by decide)
      obtain ⟨z3, e8, g8⟩ := A2 3 (by decide)
      obtain ⟨xo, e9, -⟩ := DataW.trod_bool Tryz.underlying4 f3
      obtain ⟨ca, e10, g10⟩ := A4 0 (by decide)
      obtain ⟨cb, e11, g11⟩ := A4 1 (by decide)
      obtain ⟨v0, e12, g12⟩ := A5 0 (by decide)
      obtain ⟨v1, e13, g13⟩ := A5 1 (by decide)
      obtain ⟨v2, e14, g14⟩ := A5 2 (by decide)
      obtain ⟨v3, e15, g15⟩ := A5 3 (by decide)
      obtain ⟨v4, e16, g16⟩ := A5 4 (by decide)
      obtain rfl := Option.some.inj e0
      obtain rfl := Option.some.inj e1
      obtain rfl := Option.some.inj e2
      obtain rfl := Option.some.inj e3
      obtain rfl := (List.cons.inj e4).1
      obtain rfl := Option.some.inj e5
      obtain rfl := Option.some.inj e6
      obtain rfl := Option.some.inj e7
      obtain rfl := Option.some.inj e8
      obtain rfl := (List.cons.inj e9).1
      obtain rfl := Option.some.inj e10
      obtain rfl := Option.some.inj e11
      obtain rfl := Option.some.inj e12
      obtain rfl := Option.some.inj e13
      obtain rfl := Option.some.inj e14
      obtain rfl := Option.some.inj e15
      obtain rfl := Option.some.inj e16
      exact ⟨⟨x0, x1, x2, x3, xh, z0, z1, z2, z3, xo, ca, cb, v0, v1, v2, v3, v4⟩, rfl, bounds_u8 g0, bounds_u8 g1, bounds_u8 g2, bounds_u8 g3, bounds_u8 g4, bounds_u8 g5, bounds_u8 g6, bounds_u8 g7, bounds_u8 g8, bounds_u8 g10, bounds_u8 g11, bounds_u8 g12, bounds_u8 g13, bounds_u8 g14, bounds_u8 g15, bounds_u8 g16⟩
end Go.Proofs.YthnediamopehfaaGreat
