/- Part of the proof: what the claim leans on. -/
import Derived.Test.YthnediamopehfaaGreatZFOL8
set_option linter.unusedSimpArgs false
set_option linter.unusedVariables false
namespace Go.Proofs.YthnediamopehfaaGreat
open Go.RowKit
set_option maxRecDepth 100000 in
set_option maxHeartbeats 40000000 in
theorem folds_main_c4 (x : Sh) (gx : ShIn x) (wh bn : Int) (hwh : 0 ≤ wh ∧ wh ≤ 255) (hbn : 0 ≤ bn ∧ bn ≤ 255) (b d : Bl) (vi : Wi) (lo hi q1 q2 : Int) (L L9 LW : List Sp) (i : Nat) (w : World) (hbx : shBl x = d) (ht : twinB d = b) (hcx : shCal x = (lo, hi)) (hto : b.isOpen = vi.isOpen) (hv : wishOf x b lo hi = vi) (hkd : checkErr d = 0) (hck : checkErr b = 0) (hwv : wishErr vi = 0) (j1 : 1 ≤ lo) (j2 : lo ≤ hi) (j3 : hi ≤ 10000) (hL : closeL b vi (lo, hi) = L) (hL0 : ((L.length : Int) != 0) = false) (hF : calErr b vi = 0) (hq : calOf b vi = (q1, q2)) (hq1 : q1 ≤ lo) (hq2 : hi ≤ q2) (hq3 : 1 ≤ q1) (hq4 : q2 ≤ 10000) (hL9 : innerL b (lo, hi) 0 = L9) (hn9 : L9.length = 9) (hmic : ∀ j c, j < 9 → lo ≤ c → c ≤ hi → (nthP L9 j).1 ≤ mic b c j ∧ mic b c j ≤ (nthP L9 j).2) (hmh : ∀ j, j < 9 → mic b hi j = (nthP L9 j).1) (hml : ∀ j, j < 9 → mic b lo j = (nthP L9 j).2) (n1 : b.panels.length ≤ 1000) (n2 : b.top.length ≤ 1000) (n3 : b.bottom.length ≤ 1000) (hix : 2 + (wh % 2) = (i : Int)) (hil : i < b.panels.length) (hpi : 1 ≤ nthI b.panels i ∧ nthI b.panels i ≤ 2000) (hckw : checkErr (longer b i ((nthI b.panels i) + (bn % 9))) = 0) (hLW : closeL (longer b i ((nthI b.panels i) + (bn % 9))) vi (lo, hi) = LW) (hW0 : 1000 * ((nthI b.panels i) + (bn % 9)) - lo ≤ 1000 * (if i = 3 then vi.width.2 else vi.length.2) → LW = []) (hW1 : ¬ 1000 * ((nthI b.panels i) + (bn % 9)) - lo ≤ 1000 * (if i = 3 then vi.width.2 else vi.length.2) → LW = [((i : Int), lo)]) (hvl : -10000 ≤ vi.length.2 ∧ vi.length.2 ≤ 10000) (hvw : -10000 ≤ vi.width.2 ∧ vi.width.2 ≤ 10000) (g_ : Nat → Value) (W_ : World) (bk1 : Nat) (bk2 : Nat) (bk3 : Nat) (a52' : Option Addr) (c53' : Nat) (g10' : Nat) (c13' : Nat) (g11' : Nat) (c14' : Nat) (g12' : Nat) (c15' : Nat) (bk0 : Nat)  (k_1 : g_ 1 = .int .u8 wh) (k_2 : g_ 2 = .int .u8 bn) (k_6 : g_ 6 = .bool false) (k_7 : g_ 7 = .pointer (some ⟨bk1, 0, none⟩)) (k_8 : g_ 8 = .pointer (some ⟨bk2, 0, none⟩)) (k_9 : g_ 9 = .pointer (some ⟨bk3, 0, none⟩)) (k_10 : g_ 10 = .slice (a52') (L.length) (c53')) (k_11 : g_ 11 = .int .i64 0) (fB_ : Below w.heap.size w W_) (bl_0 : W_.heap[bk0]? = some (.cells #[.int .u8 x.x0, .int .u8 x.x1, .int .u8 x.x2, .int .u8 x.x3, .int .u8 x.xh, .int .u8 x.y0, .int .u8 x.y1, .int .u8 x.y2, .int .u8 x.y3, .bool x.xo, .int .u8 x.ca, .int .u8 x.cb, .int .u8 x.v0, .int .u8 x.v1, .int .u8 x.v2, .int .u8 x.v3, .int .u8 x.v4] 72 (0, 0))) (bl_1 : W_.heap[bk1]? = some (.cells #[.int .i64 b.tab, .slice (some ⟨g10', 0, none⟩) (b.panels.length) (c13'), .int .i64 b.height, .slice (some ⟨g11', 0, none⟩) (b.top.length) (c14'), .slice (some ⟨g12', 0, none⟩) (b.bottom.length) (c15'), .int .i64 b.slot, .bool b.isOpen] 24 (0, 0))) (bl_2 : W_.heap[bk2]? = some (.cells #[.int .i64 lo, .int .i64 hi] 26 (0, 0))) (bl_3 : W_.heap[bk3]? = some (.cells #[.int .i64 vi.length.1, .int .i64 vi.length.2, .int .i64 vi.width.1, .int .i64 vi.width.2, .int .i64 vi.height.1, .int .i64 vi.height.2, .int .i64 vi.outer.1, .int .i64 vi.outer.2, .int .i64 vi.inner.1, .int .i64 vi.inner.2, .bool vi.isOpen] 43 (0, 0))) (ft_0 : OwnI 0 b.panels g10' c13' W_) (ft_1 : OwnI 0 b.top g11' c14' W_) (ft_2 : OwnI 0 b.bottom g12' c15' W_) (ft_3 : Pp W_ a52' L.length c53' L) (lw_bk0 : w.heap.size ≤ bk0) (lw_bk1 : w.heap.size ≤ bk1) (lw_bk2 : w.heap.size ≤ bk2) (lw_bk3 : w.heap.size ≤ bk3) (ne_0_1 : bk0 ≠ bk1) (ne_0_2 : bk0 ≠ bk2) (ne_1_2 : bk1 ≠ bk2) (ne_0_3 : bk0 ≠ bk3) (ne_1_3 : bk1 ≠ bk3) (ne_2_3 : bk2 ≠ bk3) :
    (tailC 4 (bodyC Tryz.f7)).wp Tryz.prog (bodyPost Tryz.prog Tryz.f7 (fun e w' => e = .returned (.bool true) ∧ Below w.heap.size w w')) (fr 245 g_) W_ := by
  have hq1n := Int.not_lt.2 hq1
  have hq2n := Int.not_lt.2 hq2
  have hq3n := Int.not_lt.2 hq3
  have hq4n := Int.not_lt.2 hq4
  have hL9z : ((L9.length : Int) != 9) = false := by rw [hn9]; rfl
  have lii := Nat.not_le.2 hil
  have lt_bk0 := lt_of_blk bl_0
  have lt_bk1 := lt_of_blk bl_1
  have lt_bk2 := lt_of_blk bl_2
  have lt_bk3 := lt_of_blk bl_3
  have lim56' := Pp.lim ft_3
  refine wp_seq_k fun K5 hK5 => ?_
  as_aux_lemma =>
  refine region_doL (LeT (W_.heap.size) 26 (justC (#[.int .i64 q1, .int .i64 q2]))) LeT.refl (LeT.drew justC_b) LeT.trans (fun _ _ h => h.size) 9 [(42, 0), (43, 1), (44, 2), (45, 3), (41, 4), (46, 5), (47, 6), (12, 7), (13, 9)] [[], [0], [], [0, 1, 2], [0, 1, 2, 3], [0, 1, 2, 3, 4], [0, 1, 2, 3, 4], [], [0, 1, 2, 3, 4, 5, 7], [0, 1, 2, 3, 4, 5, 6, 7, 8]] (rel [is (.agg #[.int .i64 b.tab, .slice (some ⟨g10', 0, none⟩) (b.panels.length) (c13'), .int .i64 b.height, .slice (some ⟨g11', 0, none⟩) (b.top.length) (c14'), .slice (some ⟨g12', 0, none⟩) (b.bottom.length) (c15'), .int .i64 b.slot, .bool b.isOpen]),
      ab fun v W => TyBlk 0 b v W,
      is (.agg #[.int .i64 vi.length.1, .int .i64 vi.length.2, .int .i64 vi.width.1, .int .i64 vi.width.2, .int .i64 vi.height.1, .int .i64 vi.height.2, .int .i64 vi.outer.1, .int .i64 vi.outer.2, .int .i64 vi.inner.1, .int .i64 vi.inner.2, .bool vi.isOpen]),
      is (.tuple #[.agg #[.int .i64 q1, .int .i64 q2], .int .i64 0]),
      is (.tuple #[.agg #[.int .i64 q1, .int .i64 q2], .int .i64 0]),
      is (.agg #[.int .i64 q1, .int .i64 q2]),
      is (.int .i64 0),
      boxT (W_.heap.size) 26 2 7,
      stoT (W_.heap.size) 26 (justC (#[.int .i64 q1, .int .i64 q2])) 7]) (by kernel_rfl) (by kernel_rfl) (by kernel_rfl) (by kernel_rfl)
    ⟨is_kl, ty_k, is_kl, is_kl, is_kl, is_kl, is_kl, boxT_k, stoT_k (by simp), trivial⟩
    ⟨fun f s W hT hd hs hz ac hac => by have hW := LeT.below hT (Nat.le_refl _); exact OpDo.l (LeT.of_below justC_b) (opl rfl rfl rfl (hac.v 7 k_7) (blk_below bl_1 hW) Tryz.underlying24 rfl (by kernel_rfl) rfl),
    fun f s W hT hd hs hz ac hac => by have hW := LeT.below hT (Nat.le_refl _); exact OpDo.l (LeT.of_below justC_b) (opDo_call (args := #[.agg #[.int .i64 b.tab, .slice (some ⟨g10', 0, none⟩) (b.panels.length) (c13'), .int .i64 b.height, .slice (some ⟨g11', 0, none⟩) (b.top.length) (c14'), .slice (some ⟨g12', 0, none⟩) (b.bottom.length) (c15'), .int .i64 b.slot, .bool b.isOpen]]) rfl rfl (by simp [go_sem, hac.e 42 (hd 0 rfl)]) (own_ty _ _ _ _ _ _ b W ((ft_0.below hW)).ii ((ft_1.below hW)).ii ((ft_2.below hW)).ii hck) ((fun e W' h => by obtain ⟨v, e1, h1, h2⟩ := h; exact ⟨_, e1, h2, h1.low (Nat.zero_le _)⟩))),
    fun f s W hT hd hs hz ac hac => by have hW := LeT.below hT (Nat.le_refl _); exact OpDo.l (LeT.of_below justC_b) (opl rfl rfl rfl (hac.v 9 k_9) (blk_below bl_3 hW) Tryz.underlying43 rfl (by kernel_rfl) rfl),
    fun f s W hT hd hs hz ac hac => by have hW := LeT.below hT (Nat.le_refl _); exact OpDo.l (LeT.of_below justC_b) (by obtain ⟨g57', c60', g58', c61', g59', c62', d1, q63', q64', q65'⟩ := (hd 1 rfl); exact opDo_call (args := #[.agg #[.int .i64 b.tab, .slice (some ⟨g57', 0, none⟩) (b.panels.length) (c60'), .int .i64 b.height, .slice (some ⟨g58', 0, none⟩) (b.top.length) (c61'), .slice (some ⟨g59', 0, none⟩) (b.bottom.length) (c62'), .int .i64 b.slot, .bool b.isOpen], .agg #[.int .i64 vi.length.1, .int .i64 vi.length.2, .int .i64 vi.width.1, .int .i64 vi.width.2, .int .i64 vi.height.1, .int .i64 vi.height.2, .int .i64 vi.outer.1, .int .i64 vi.outer.2, .int .i64 vi.inner.1, .int .i64 vi.inner.2, .bool vi.isOpen]]) rfl rfl (by simp [go_sem, hac.e 43 d1, hac.e 44 (hd 2 rfl)]) (cal_ok vi W ⟨_, _, _, _, _, _, _, _, _, rfl, q63'.ii, q64'.ii, q65'.ii⟩) ((fun e W' h => by have h1 := h.1; rw [hq, hF] at h1; exact ⟨_, h1, h.2, rfl⟩))),
    fun f s W hT hd hs hz ac hac => by have hW := LeT.below hT (Nat.le_refl _); exact OpDo.l (LeT.of_below justC_b) (opv rfl rfl (by simp [go_sem, hac.e 45 (hd 3 rfl)]) rfl),
    fun f s W hT hd hs hz ac hac => by have hW := LeT.below hT (Nat.le_refl _); exact OpDo.l (LeT.of_below justC_b) (opv rfl rfl (by simp [go_sem, hac.e 41 (hd 4 rfl)]) rfl),
    fun f s W hT hd hs hz ac hac => by have hW := LeT.below hT (Nat.le_refl _); exact OpDo.l (LeT.of_below justC_b) (opv rfl rfl (by simp [go_sem, hac.e 41 (hd 4 rfl)]) rfl),
    fun f s W hT hd hs hz ac hac => opT (cs := #[.int .i64 0, .int .i64 0]) justC_b (hT.size) rfl rfl (by simp [go_sem]) rfl,
    fun f s W hT hd hs hz ac hac => by exact stoT_do (#[.int .i64 q1, .int .i64 q2]) rfl (by decide) (hd 7 rfl) (hac.v 12 (hd 7 rfl).1) (hac.v 46 (hd 5 rfl)) rfl rfl (by rfl) (by rfl) ((rfl : justC (#[.int .i64 q1, .int .i64 q2]) (#[.int .i64 q1, .int .i64 q2]) W)) (fun _ _ _ h => h) (fun _ _ _ _ _ h => h), trivial⟩ ?_
  intro f8 s8 W8 hB8
  have hb8 := LeT.below hB8.le (Nat.le_refl _)
  have fB8 : Below w.heap.size w W8 := below_trans fB_ hb8
  have z8 : W_.heap.size ≤ W8.heap.size := hb8.size
  have b8_0 := blk_below bl_0 hb8
  have b8_1 := blk_below bl_1 hb8
  have b8_2 := blk_below bl_2 hb8
  have b8_3 := blk_below bl_3 hb8
  have q66' := (ft_0.below hb8)
  have q67' := (ft_1.below hb8)
  have q68' := (ft_2.below hb8)
  have q69' := (ft_3.below hb8 (Nat.le_refl _))
  obtain ⟨r8_7, lb8, -⟩ := hB8.is 7
  obtain ⟨-, cs8, bs8, hG8⟩ := hB8.is 8
  have hG8' : cs8 = #[.int .i64 q1, .int .i64 q2] := hG8
  subst hG8'
  have lr8_7 : W_.heap.size ≤ s8 7 ∧ s8 7 < W8.heap.size := ⟨lb8, lt_of_blk bs8⟩
  generalize hg8 : ov [(42, 0), (43, 1), (44, 2), (45, 3), (41, 4), (46, 5), (47, 6), (12, 7), (13, 9)] f8 g_ = g8
  have k8_1 := kt hg8 1 k_1
  have k8_2 := kt hg8 2 k_2
  have k8_6 := kt hg8 6 k_6
  have k8_7 := kt hg8 7 k_7
  have k8_8 := kt hg8 8 k_8
  have k8_9 := kt hg8 9 k_9
  have k8_10 := kt hg8 10 k_10
  have k8_11 := kt hg8 11 k_11
  have k8_12 := kt hg8 12 r8_7
  have k8_47 := kt hg8 47 (hB8.is 6)
  refine tail_value (o := _) rfl rfl rfl (v := .int .i64 0) (by simp [go_sem, frv 245 k8_47]) ?_
  generalize hg9 : upd g8 13 (.int .i64 0) = g9
  have k9_1 := ku hg9 1 k8_1
  have k9_2 := ku hg9 2 k8_2
  have k9_6 := ku hg9 6 k8_6
  have k9_7 := ku hg9 7 k8_7
  have k9_8 := ku hg9 8 k8_8
  have k9_9 := ku hg9 9 k8_9
  have k9_10 := ku hg9 10 k8_10
  have k9_11 := ku hg9 11 k8_11
  have k9_12 := ku hg9 12 k8_12
  have k9_13 := kt hg9 13 (upd_same _ _ _)
  refine wpOps_end ?_
  refine hK5 _ _ ?_
  have fA10 : Below W8.heap.size W8 W8 := Below.refl _ _
  refine wp_seq_k fun K6 hK6 => ?_
  as_aux_lemma =>
  refine region_do 9 [(49, 0), (50, 1), (51, 2), (52, 3), (48, 4), (53, 5), (54, 6), (14, 7), (15, 8)] [[], [0], [], [0, 1, 2], [0, 1, 2, 3], [0, 1, 2, 3, 4], [0, 1, 2, 3, 4], [0, 1, 2, 3, 4, 5], [0, 1, 2, 3, 4, 5, 6, 7]] (rel [is (.agg #[.int .i64 b.tab, .slice (some ⟨g10', 0, none⟩) (b.panels.length) (c13'), .int .i64 b.height, .slice (some ⟨g11', 0, none⟩) (b.top.length) (c14'), .slice (some ⟨g12', 0, none⟩) (b.bottom.length) (c15'), .int .i64 b.slot, .bool b.isOpen]),
      fun v s W => NwBlk (s 1) (b) v W,
      is (.agg #[.int .i64 lo, .int .i64 hi]),
      ab fun v W => ∃ x0, v = .tuple #[x0, .int .i64 0] ∧ IsPp L9 x0 W,
      ab fun v W => ∃ x0, v = .tuple #[x0, .int .i64 0] ∧ IsPp L9 x0 W,
      ab fun v W => IsPp L9 v W,
      is (.int .i64 0),
      ab fun v W => IsPp L9 v W,
      is (.int .i64 0)]) (by kernel_rfl) (by kernel_rfl) (by kernel_rfl) (by kernel_rfl)
    ⟨is_k, ⟨fun v k W W' hb h => h.below hb, fun v s s' W e h => by have h' : NwBlk (s 1) (b) v W := h; show NwBlk (s' 1) (b) v W; rw [← e 1 (by simp)]; exact h'⟩, is_k, ab_k fun v W W' hb ⟨x0, e, h0⟩ => ⟨x0, e, h0.below hb⟩, ab_k fun v W W' hb ⟨x0, e, h0⟩ => ⟨x0, e, h0.below hb⟩, ab_k fun v W W' hb h => h.below hb, is_k, ab_k fun v W W' hb h => h.below hb, is_k, trivial⟩
    ⟨fun f s W hW hd hs hz ac hac => by have aW := below_trans fA10 hW; exact opl rfl rfl rfl (hac.v 7 k9_7) (blk_below b8_1 aW) Tryz.underlying24 rfl (by kernel_rfl) rfl,
    fun f s W hW hd hs hz ac hac => by have aW := below_trans fA10 hW; exact opDo_call (args := #[.agg #[.int .i64 b.tab, .slice (some ⟨g10', 0, none⟩) (b.panels.length) (c13'), .int .i64 b.height, .slice (some ⟨g11', 0, none⟩) (b.top.length) (c14'), .slice (some ⟨g12', 0, none⟩) (b.bottom.length) (c15'), .int .i64 b.slot, .bool b.isOpen]]) rfl rfl (by simp [go_sem, hac.e 49 (hd 0 rfl)]) (own_any _ _ _ _ _ _ b W ((q66'.below aW)).ii ((q67'.below aW)).ii ((q68'.below aW)).ii n1 n2 n3) (fun e W' h => by obtain ⟨v, e1, h1, h2⟩ := h; exact ⟨v, e1, h2, (show NwBlk (upd s 1 W.heap.size 1) (b) v W' from by rw [upd_at]; exact h1)⟩),
    fun f s W hW hd hs hz ac hac => by have aW := below_trans fA10 hW; exact opv rfl rfl (by simp [go_sem, hac.e 8 k9_8, Joins.cell_of_block (blk_below b8_2 aW) 0, Joins.cell_of_block (blk_below b8_2 aW) 1]) rfl,
    fun f s W hW hd hs hz ac hac => by obtain ⟨g70', c73', g71', c74', g72', c75', d1, ⟨q76', q78', q77'⟩, ⟨q79', q81', q80'⟩, ⟨q82', q84', q83'⟩⟩ := (hd 1 rfl); exact opDo_call (args := #[.agg #[.int .i64 b.tab, .slice (some ⟨g70', 0, none⟩) (b.panels.length) (c73'), .int .i64 b.height, .slice (some ⟨g71', 0, none⟩) (b.top.length) (c74'), .slice (some ⟨g72', 0, none⟩) (b.bottom.length) (c75'), .int .i64 b.slot, .bool b.isOpen], .agg #[.int .i64 lo, .int .i64 hi], .int .i64 0]) rfl rfl (by simp [go_sem, hac.e 50 d1, hac.e 51 (hd 2 rfl)]) (inner_ok lo hi 0 W ⟨_, _, _, _, _, _, _, _, _, rfl, q76', q79', q82'⟩ hck j1 j2 j3 (by omega) (by omega)) ((fun e W' h => by obtain ⟨x, e1, h1, h2⟩ := h; rw [hL9] at h1; exact ⟨_, e1, h2, _, rfl, h1⟩)),
    fun f s W hW hd hs hz ac hac => opv (v := (f 3)) rfl rfl (by simp [go_sem, (hac.at' 52 rfl : ac.tmps[52]?.getD undef = f 3)] <;> rfl) (hd 3 rfl),
    fun f s W hW hd hs hz ac hac => by obtain ⟨x4_0, d4, p4_0⟩ := (hd 4 rfl); exact opv (v := x4_0) rfl rfl (by simp [go_sem, hac.e 48 d4]) p4_0,
    fun f s W hW hd hs hz ac hac => by obtain ⟨x4_0, d4, p4_0⟩ := (hd 4 rfl); exact opv rfl rfl (by simp [go_sem, hac.e 48 d4]) rfl,
    fun f s W hW hd hs hz ac hac => opv (v := (f 5)) rfl rfl (by simp [go_sem, (hac.at' 53 rfl : ac.tmps[53]?.getD undef = f 5)] <;> rfl) (hd 5 rfl),
    fun f s W hW hd hs hz ac hac => opv rfl rfl (by simp [go_sem, hac.e 54 (hd 6 rfl)]) rfl, trivial⟩ ?_
  intro f11 s11 W11 hB11
  have fB11 : Below w.heap.size w W11 := below_trans fB8 hB11.below
  have z11 : W8.heap.size ≤ W11.heap.size := hB11.below.size
  have fA11 := below_trans fA10 hB11.below
  obtain ⟨a88', c89', r11_7, q90'⟩ := hB11.is 7
  have lim91' := Pp.lim q90'
  refine hK6 _ _ ?_
  generalize hg11 : ov [(49, 0), (50, 1), (51, 2), (52, 3), (48, 4), (53, 5), (54, 6), (14, 7), (15, 8)] f11 g9 = g11
  have k11_1 := kt hg11 1 k9_1
  have k11_2 := kt hg11 2 k9_2
  have k11_6 := kt hg11 6 k9_6
  have k11_7 := kt hg11 7 k9_7
  have k11_8 := kt hg11 8 k9_8
  have k11_9 := kt hg11 9 k9_9
  have k11_10 := kt hg11 10 k9_10
  have k11_11 := kt hg11 11 k9_11
  have k11_12 := kt hg11 12 k9_12
  have k11_13 := kt hg11 13 k9_13
  have k11_14 := kt hg11 14 r11_7
  have k11_15 := kt hg11 15 (hB11.is 8)
  refine wp_seq_k fun K7 hK7 => ?_
  refine wp_seq_k fun K8 hK8 => ?_
  as_aux_lemma =>
  refine region_do 44 [(55, 0), (56, 1), (57, 2), (58, 3), (59, 4), (60, 5), (61, 6), (62, 7), (63, 8), (64, 9), (65, 10), (66, 11), (67, 12), (68, 13), (69, 14), (70, 15), (71, 16), (72, 17), (73, 18), (74, 19), (75, 20), (76, 21), (77, 22), (78, 23), (79, 24), (80, 25), (81, 26), (82, 27), (83, 28), (84, 29), (85, 30), (86, 31), (87, 32), (88, 33), (89, 34), (90, 35), (91, 36), (92, 37), (93, 38), (94, 39), (95, 40), (96, 41), (97, 42), (98, 43)] [[], [0], [0, 1], [0, 1, 2], [0, 1, 2, 3], [0, 1, 2, 3, 4], [0, 1, 2, 3, 4, 5], [0, 1, 2, 3, 4, 5, 6], [0, 1, 2, 3, 4, 5, 6, 7], [0, 1, 2, 3, 4, 5, 6, 7, 8], [0, 1, 2, 3, 4, 5, 6, 7, 8, 9], [0, 1, 2, 3, 4, 5, 6, 7, 8, 9, 10], [0, 1, 2, 3, 4, 5, 6, 7, 8, 9, 10, 11], [0, 1, 2, 3, 4, 5, 6, 7, 8, 9, 10, 11, 12], [0, 1, 2, 3, 4, 5, 6, 7, 8, 9, 10, 11, 12, 13], [0, 1, 2, 3, 4, 5, 6, 7, 8, 9, 10, 11, 12, 13, 14], [0, 1, 2, 3, 4, 5, 6, 7, 8, 9, 10, 11, 12, 13, 14, 15], [0, 1, 2, 3, 4, 5, 6, 7, 8, 9, 10, 11, 12, 13, 14, 15, 16], [0, 1, 2, 3, 4, 5, 6, 7, 8, 9, 10, 11, 12, 13, 14, 15], [0, 1, 2, 3, 4, 5, 6, 7, 8, 9, 10, 11, 12, 13, 14, 15, 18], [0, 1, 2, 3, 4, 5, 6, 7, 8, 9, 10, 11, 12, 13, 14, 15, 16, 17, 18, 19], [0, 1, 2, 3, 4, 5, 6, 7, 8, 9, 10, 11, 12, 13, 14, 15, 16, 17, 18, 19, 20], [0, 1, 2, 3, 4, 5, 6, 7, 8, 9, 10, 11, 12, 13, 14, 15, 16, 17, 18, 19, 20, 21], [0, 1, 2, 3, 4, 5, 6, 7, 8, 9, 10, 11, 12, 13, 14, 15, 16, 17, 18, 19, 20, 21, 22], [0, 1, 2, 3, 4, 5, 6, 7, 8, 9, 10, 11, 12, 13, 14, 15, 16, 17, 18, 19, 20, 21, 22, 23], [0, 1, 2, 3, 4, 5, 6, 7, 8, 9, 10, 11, 12, 13, 14, 15, 16, 17, 18, 19, 20, 21, 22], [0, 1, 2, 3, 4, 5, 6, 7, 8, 9, 10, 11, 12, 13, 14, 15, 16, 17, 18, 19, 20, 21, 22, 25], [0, 1, 2, 3, 4, 5, 6, 7, 8, 9, 10, 11, 12, 13, 14, 15, 16, 17, 18, 19, 20, 21, 22, 23, 24, 25, 26], [0, 1, 2, 3, 4, 5, 6, 7, 8, 9, 10, 11, 12, 13, 14, 15, 16, 17, 18, 19, 20, 21, 22, 23, 24, 25, 26, 27], [0, 1, 2, 3, 4, 5, 6, 7, 8, 9, 10, 11, 12, 13, 14, 15, 16, 17, 18, 19, 20, 21, 22, 23, 24, 25, 26, 27, 28], [0, 1, 2, 3, 4, 5, 6, 7, 8, 9, 10, 11, 12, 13, 14, 15, 16, 17, 18, 19, 20, 21, 22, 23, 24, 25, 26, 27, 28, 29], [0, 1, 2, 3, 4, 5, 6, 7, 8, 9, 10, 11, 12, 13, 14, 15, 16, 17, 18, 19, 20, 21, 22, 23, 24, 25, 26, 27, 28, 29, 30], [0, 1, 2, 3, 4, 5, 6, 7, 8, 9, 10, 11, 12, 13, 14, 15, 16, 17, 18, 19, 20, 21, 22, 23, 24, 25, 26, 27, 28, 29, 30, 31], [0, 1, 2, 3, 4, 5, 6, 7, 8, 9, 10, 11, 12, 13, 14, 15, 16, 17, 18, 19, 20, 21, 22, 23, 24, 25, 26, 27, 28, 29, 30, 31, 32], [0, 1, 2, 3, 4, 5, 6, 7, 8, 9, 10, 11, 12, 13, 14, 15, 16, 17, 18, 19, 20, 21, 22, 23, 24, 25, 26, 27, 28, 29, 30, 31, 32, 33], [0, 1, 2, 3, 4, 5, 6, 7, 8, 9, 10, 11, 12, 13, 14, 15, 16, 17, 18, 19, 20, 21, 22, 23, 24, 25, 26, 27, 28, 29, 30, 31, 32, 33, 34], [0, 1, 2, 3, 4, 5, 6, 7, 8, 9, 10, 11, 12, 13, 14, 15, 16, 17, 18, 19, 20, 21, 22, 23, 24, 25, 26, 27, 28, 29, 30, 31, 32, 33, 34, 35], [0, 1, 2, 3, 4, 5, 6, 7, 8, 9, 10, 11, 12, 13, 14, 15, 16, 17, 18, 19, 20, 21, 22, 23, 24, 25, 26, 27, 28, 29, 30, 31, 32, 33, 34, 35, 36], [0, 1, 2, 3, 4, 5, 6, 7, 8, 9, 10, 11, 12, 13, 14, 15, 16, 17, 18, 19, 20, 21, 22, 23, 24, 25, 26, 27, 28, 29, 30, 31, 32, 33, 34, 35, 36, 37], [0, 1, 2, 3, 4, 5, 6, 7, 8, 9, 10, 11, 12, 13, 14, 15, 16, 17, 18, 19, 20, 21, 22, 23, 24, 25, 26, 27, 28, 29, 30, 31, 32, 33, 34, 35, 36, 37, 38], [0, 1, 2, 3, 4, 5, 6, 7, 8, 9, 10, 11, 12, 13, 14, 15, 16, 17, 18, 19, 20, 21, 22, 23, 24, 25, 26, 27, 28, 29, 30, 31, 32, 33, 34, 35, 36, 37, 38, 39], [0, 1, 2, 3, 4, 5, 6, 7, 8, 9, 10, 11, 12, 13, 14, 15, 16, 17, 18, 19, 20, 21, 22, 23, 24, 25, 26, 27, 28, 29, 30, 31, 32, 33, 34, 35, 36, 37, 38, 39, 40], [0, 1, 2, 3, 4, 5, 6, 7, 8, 9, 10, 11, 12, 13, 14, 15, 16, 17, 18, 19, 20, 21, 22, 23, 24, 25, 26, 27, 28, 29, 30, 31, 32, 33, 34, 35, 36, 37, 38, 39, 40, 41], [0, 1, 2, 3, 4, 5, 6, 7, 8, 9, 10, 11, 12, 13, 14, 15, 16, 17, 18, 19, 20, 21, 22, 23, 24, 25, 26, 27, 28, 29, 30, 31, 32, 33, 34, 35, 36, 37, 38, 39, 40, 41, 42]] (rel [is (.int .i64 0),
      is (.bool false),
      is (.bool false),
      is (.int .i64 0),
      is (.bool false),
      is (.bool false),
      is (.bool false),
      is (.int .i64 0),
      is (.bool false),
      is (.bool false),
      is (.bool false),
      is (.slice (a52') (L.length) (c53')),
      is (.int .i64 ((L.length : Int))),
      is (.bool false),
      is (.bool false),
      is (.bool false),
      is (.pointer (some ⟨(s8 7), 0, none⟩)),
      is (.int .i64 q1),
      is (.pointer (some ⟨bk2, 0, none⟩)),
      is (.int .i64 lo),
      is (.bool false),
      is (.bool false),
      is (.bool false),
      is (.pointer (some ⟨(s8 7), 1, none⟩)),
      is (.int .i64 q2),
      is (.pointer (some ⟨bk2, 1, none⟩)),
      is (.int .i64 hi),
      is (.bool false),
      is (.bool false),
      is (.bool false),
      is (.pointer (some ⟨(s8 7), 0, none⟩)),
      is (.int .i64 q1),
      is (.bool false),
      is (.bool false),
      is (.bool false),
      is (.pointer (some ⟨(s8 7), 1, none⟩)),
      is (.int .i64 q2),
      is (.bool false),
      is (.bool false),
      is (.bool false),
      is (.slice (a88') (L9.length) (c89')),
      is (.int .i64 ((L9.length : Int))),
      is (.bool false),
      is (.bool false)]) (by kernel_rfl) (by kernel_rfl) (by kernel_rfl) (by kernel_rfl)
    ⟨is_k, is_k, is_k, is_k, is_k, is_k, is_k, is_k, is_k, is_k, is_k, is_k, is_k, is_k, is_k, is_k, is_k, is_k, is_k, is_k, is_k, is_k, is_k, is_k, is_k, is_k, is_k, is_k, is_k, is_k, is_k, is_k, is_k, is_k, is_k, is_k, is_k, is_k, is_k, is_k, is_k, is_k, is_k, is_k, trivial⟩
    ⟨fun f s W hW hd hs hz ac hac => opv rfl rfl (by simp [go_sem, hac.e 11 k11_11]) rfl,
    fun f s W hW hd hs hz ac hac => opv rfl rfl (by simp [go_sem, hac.e 55 (hd 0 rfl)]) rfl,
    fun f s W hW hd hs hz ac hac => opv rfl rfl (by simp [go_sem, hac.e 56 (hd 1 rfl)]) rfl,
    fun f s W hW hd hs hz ac hac => osure rfl rfl (hac.says (d := 57) rfl rfl (hd 2 rfl)) (gv (by simp [go_sem, hac.e 13 k11_13]) rfl),
    fun f s W hW hd hs hz ac hac => osure rfl rfl (hac.says (d := 57) rfl rfl (hd 2 rfl)) (gv (by simp [go_sem, hac.e 58 (hd 3 rfl)]) rfl),
    fun f s W hW hd hs hz ac hac => opk (c := false) rfl rfl (fun _ => by simp [go_sem, hac.e 57 (hd 2 rfl), hac.e 59 (hd 4 rfl)]) (fun h => absurd h (by decide)),
    fun f s W hW hd hs hz ac hac => opv rfl rfl (by simp [go_sem, hac.e 60 (hd 5 rfl)]) rfl,
    fun f s W hW hd hs hz ac hac => osure rfl rfl (hac.says (d := 61) rfl rfl (hd 6 rfl)) (gv (by simp [go_sem, hac.e 15 k11_15]) rfl),
    fun f s W hW hd hs hz ac hac => osure rfl rfl (hac.says (d := 61) rfl rfl (hd 6 rfl)) (gv (by simp [go_sem, hac.e 62 (hd 7 rfl)]) rfl),
    fun f s W hW hd hs hz ac hac => opk (c := false) rfl rfl (fun _ => by simp [go_sem, hac.e 61 (hd 6 rfl), hac.e 63 (hd 8 rfl)]) (fun h => absurd h (by decide)),
    fun f s W hW hd hs hz ac hac => opv rfl rfl (by simp [go_sem, hac.e 64 (hd 9 rfl)]) rfl,
    fun f s W hW hd hs hz ac hac => osure rfl rfl (hac.says (d := 65) rfl rfl (hd 10 rfl)) (gv (by simp [go_sem, hac.e 10 k11_10]) rfl),
    fun f s W hW hd hs hz ac hac => osure rfl rfl (hac.says (d := 65) rfl rfl (hd 10 rfl)) (gv (by simp [go_sem, hac.e 66 (hd 11 rfl)]) rfl),
    fun f s W hW hd hs hz ac hac => osure rfl rfl (hac.says (d := 65) rfl rfl (hd 10 rfl)) (gv (by simp [go_sem, hac.e 67 (hd 12 rfl), hL0]) rfl),
    fun f s W hW hd hs hz ac hac => opk (c := false) rfl rfl (fun _ => by simp [go_sem, hac.e 65 (hd 10 rfl), hac.e 68 (hd 13 rfl)]) (fun h => absurd h (by decide)),
    fun f s W hW hd hs hz ac hac => opv rfl rfl (by simp [go_sem, hac.e 69 (hd 14 rfl)]) rfl,
    fun f s W hW hd hs hz ac hac => osure rfl rfl (hac.says (d := 70) rfl rfl (hd 15 rfl)) (gv (by simp [go_sem, hac.e 12 k11_12]) rfl),
    fun f s W hW hd hs hz ac hac => osure rfl rfl (hac.says (d := 70) rfl rfl (hd 15 rfl)) (by have aW := below_trans fA11 hW; exact gv (by simp [go_sem, hac.e 71 (hd 16 rfl), Joins.cell_of_block (blk_below bs8 aW) 0]) rfl),
    fun f s W hW hd hs hz ac hac => osure rfl rfl (hac.says (d := 70) rfl rfl (hd 15 rfl)) (gv (by simp [go_sem, hac.e 8 k11_8]) rfl),
    fun f s W hW hd hs hz ac hac => osure rfl rfl (hac.says (d := 70) rfl rfl (hd 15 rfl)) (by have aW := below_trans fA11 hW; exact gv (by simp [go_sem, hac.e 73 (hd 18 rfl), Joins.cell_of_block (blk_below b8_2 aW) 0]) rfl),
    fun f s W hW hd hs hz ac hac => osure rfl rfl (hac.says (d := 70) rfl rfl (hd 15 rfl)) (gv (by simp [go_sem, hac.e 72 (hd 17 rfl), hac.e 74 (hd 19 rfl), hq1n]) rfl),
    fun f s W hW hd hs hz ac hac => opk (c := false) rfl rfl (fun _ => by simp [go_sem, hac.e 70 (hd 15 rfl), hac.e 75 (hd 20 rfl)]) (fun h => absurd h (by decide)),
    fun f s W hW hd hs hz ac hac => opv rfl rfl (by simp [go_sem, hac.e 76 (hd 21 rfl)]) rfl,
    fun f s W hW hd hs hz ac hac => osure rfl rfl (hac.says (d := 77) rfl rfl (hd 22 rfl)) (gv (by simp [go_sem, hac.e 12 k11_12]) rfl),
    fun f s W hW hd hs hz ac hac => osure rfl rfl (hac.says (d := 77) rfl rfl (hd 22 rfl)) (by have aW := below_trans fA11 hW; exact gv (by simp [go_sem, hac.e 78 (hd 23 rfl), Joins.cell_of_block (blk_below bs8 aW) 1]) rfl),
    fun f s W hW hd hs hz ac hac => osure rfl rfl (hac.says (d := 77) rfl rfl (hd 22 rfl)) (gv (by simp [go_sem, hac.e 8 k11_8]) rfl),
    fun f s W hW hd hs hz ac hac => osure rfl rfl (hac.says (d := 77) rfl rfl (hd 22 rfl)) (by have aW := below_trans fA11 hW; exact gv (by simp [go_sem, hac.e 80 (hd 25 rfl), Joins.cell_of_block (blk_below b8_2 aW) 1]) rfl),
    fun f s W hW hd hs hz ac hac => osure rfl rfl (hac.says (d := 77) rfl rfl (hd 22 rfl)) (gv (by simp [go_sem, hac.e 79 (hd 24 rfl), hac.e 81 (hd 26 rfl), hq2n]) rfl),
    fun f s W hW hd hs hz ac hac => opk (c := false) rfl rfl (fun _ => by simp [go_sem, hac.e 77 (hd 22 rfl), hac.e 82 (hd 27 rfl)]) (fun h => absurd h (by decide)),
    fun f s W hW hd hs hz ac hac => opv rfl rfl (by simp [go_sem, hac.e 83 (hd 28 rfl)]) rfl,
    fun f s W hW hd hs hz ac hac => osure rfl rfl (hac.says (d := 84) rfl rfl (hd 29 rfl)) (gv (by simp [go_sem, hac.e 12 k11_12]) rfl),
    fun f s W hW hd hs hz ac hac => osure rfl rfl (hac.says (d := 84) rfl rfl (hd 29 rfl)) (by have aW := below_trans fA11 hW; exact gv (by simp [go_sem, hac.e 85 (hd 30 rfl), Joins.cell_of_block (blk_below bs8 aW) 0]) rfl),
    fun f s W hW hd hs hz ac hac => osure rfl rfl (hac.says (d := 84) rfl rfl (hd 29 rfl)) (gv (by simp [go_sem, hac.e 86 (hd 31 rfl), hq3n]) rfl),
    fun f s W hW hd hs hz ac hac => opk (c := false) rfl rfl (fun _ => by simp [go_sem, hac.e 84 (hd 29 rfl), hac.e 87 (hd 32 rfl)]) (fun h => absurd h (by decide)),
    fun f s W hW hd hs hz ac hac => opv rfl rfl (by simp [go_sem, hac.e 88 (hd 33 rfl)]) rfl,
    fun f s W hW hd hs hz ac hac => osure rfl rfl (hac.says (d := 89) rfl rfl (hd 34 rfl)) (gv (by simp [go_sem, hac.e 12 k11_12]) rfl),
    fun f s W hW hd hs hz ac hac => osure rfl rfl (hac.says (d := 89) rfl rfl (hd 34 rfl)) (by have aW := below_trans fA11 hW; exact gv (by simp [go_sem, hac.e 90 (hd 35 rfl), Joins.cell_of_block (blk_below bs8 aW) 1]) rfl),
    fun f s W hW hd hs hz ac hac => osure rfl rfl (hac.says (d := 89) rfl rfl (hd 34 rfl)) (gv (by simp [go_sem, hac.e 91 (hd 36 rfl), hq4n]) rfl),
    fun f s W hW hd hs hz ac hac => opk (c := false) rfl rfl (fun _ => by simp [go_sem, hac.e 89 (hd 34 rfl), hac.e 92 (hd 37 rfl)]) (fun h => absurd h (by decide)),
    fun f s W hW hd hs hz ac hac => opv rfl rfl (by simp [go_sem, hac.e 93 (hd 38 rfl)]) rfl,
    fun f s W hW hd hs hz ac hac => osure rfl rfl (hac.says (d := 94) rfl rfl (hd 39 rfl)) (gv (by simp [go_sem, hac.e 14 k11_14]) rfl),
    fun f s W hW hd hs hz ac hac => osure rfl rfl (hac.says (d := 94) rfl rfl (hd 39 rfl)) (gv (by simp [go_sem, hac.e 95 (hd 40 rfl)]) rfl),
    fun f s W hW hd hs hz ac hac => osure rfl rfl (hac.says (d := 94) rfl rfl (hd 39 rfl)) (gv (by simp [go_sem, hac.e 96 (hd 41 rfl), hL9z]) rfl),
    fun f s W hW hd hs hz ac hac => opk (c := false) rfl rfl (fun _ => by simp [go_sem, hac.e 94 (hd 39 rfl), hac.e 97 (hd 42 rfl)]) (fun h => absurd h (by decide)), trivial⟩ ?_
  intro f12 s12 W12 hB12
  have fB12 : Below w.heap.size w W12 := below_trans fB11 hB12.below
  have z12 : W11.heap.size ≤ W12.heap.size := hB12.below.size
  have fA12 := below_trans fA11 hB12.below
  have q92' := (q90'.below hB12.below (Nat.le_refl _))
  refine hK8 _ _ ?_
  generalize hg12 : ov [(55, 0), (56, 1), (57, 2), (58, 3), (59, 4), (60, 5), (61, 6), (62, 7), (63, 8), (64, 9), (65, 10), (66, 11), (67, 12), (68, 13), (69, 14), (70, 15), (71, 16), (72, 17), (73, 18), (74, 19), (75, 20), (76, 21), (77, 22), (78, 23), (79, 24), (80, 25), (81, 26), (82, 27), (83, 28), (84, 29), (85, 30), (86, 31), (87, 32), (88, 33), (89, 34), (90, 35), (91, 36), (92, 37), (93, 38), (94, 39), (95, 40), (96, 41), (97, 42), (98, 43)] f12 g11 = g12
  have k12_1 := kt hg12 1 k11_1
  have k12_2 := kt hg12 2 k11_2
  have k12_6 := kt hg12 6 k11_6
  have k12_7 := kt hg12 7 k11_7
  have k12_8 := kt hg12 8 k11_8
  have k12_9 := kt hg12 9 k11_9
  have k12_14 := kt hg12 14 k11_14
  have k12_98 := kt hg12 98 (hB12.is 43)
  refine wp_cond_false ((fr_eval rfl).trans k12_98) ?_
  refine wp_skip ?_
  refine hK7 _ _ ?_
  have q93' := (q66'.below fA12)
  have q94' := (q67'.below fA12)
  have q95' := (q68'.below fA12)
  have q96' := (q69'.below fA12 (Nat.le_refl _))
  have bl97' := blk_below b8_0 fA12
  have bl98' := blk_below b8_1 fA12
  have bl99' := blk_below b8_2 fA12
  have bl100' := blk_below b8_3 fA12
  have bl101' := blk_below bs8 fA12
  exact folds_main_c8 x gx wh bn hwh hbn b d vi lo hi q1 q2 L L9 LW i w hbx ht hcx hto hv hkd hck hwv j1 j2 j3 hL hL0 hF hq hq1 hq2 hq3 hq4 hL9 hn9 hmic hmh hml n1 n2 n3 hix hil hpi hckw hLW hW0 hW1 hvl hvw g12 W12 bk1 bk2 bk3 a88' c89' g10' c13' g11' c14' g12' c15' a52' c53' bk0 (s8 7) k12_1 k12_2 k12_6 k12_7 k12_8 k12_9 k12_14 fB12 bl97' bl98' bl99' bl100' bl101' q93' q94' q95' q96' q92' (by omega) (by omega) (by omega) (by omega) (by omega) (by omega) (by omega) (by omega) (by omega) (by omega) (by omega) (by omega) (by omega) (by omega) (by omega)
end Go.Proofs.YthnediamopehfaaGreat
namespace Go.Proofs.YthnediamopehfaaGreat
open Go.RowKit
set_option maxRecDepth 100000 in
set_option maxHeartbeats 40000000 in
theorem folds_main_c3 (x : Sh) (gx : ShIn x) (wh bn : Int) (hwh : 0 ≤ wh ∧ wh ≤ 255) (hbn : 0 ≤ bn ∧ bn ≤ 255) (b d : Bl) (vi : Wi) (lo hi q1 q2 : Int) (L L9 LW : List Sp) (i : Nat) (w : World) (hbx : shBl x = d) (ht : twinB d = b) (hcx : shCal x = (lo, hi)) (hto : b.isOpen = vi.isOpen) (hv : wishOf x b lo hi = vi) (hkd : checkErr d = 0) (hck : checkErr b = 0) (hwv : wishErr vi = 0) (j1 : 1 ≤ lo) (j2 : lo ≤ hi) (j3 : hi ≤ 10000) (hL : closeL b vi (lo, hi) = L) (hL0 : ((L.length : Int) != 0) = false) (hF : calErr b vi = 0) (hq : calOf b vi = (q1, q2)) (hq1 : q1 ≤ lo) (hq2 : hi ≤ q2) (hq3 : 1 ≤ q1) (hq4 : q2 ≤ 10000) (hL9 : innerL b (lo, hi) 0 = L9) (hn9 : L9.length = 9) (hmic : ∀ j c, j < 9 → lo ≤ c → c ≤ hi → (nthP L9 j).1 ≤ mic b c j ∧ mic b c j ≤ (nthP L9 j).2) (hmh : ∀ j, j < 9 → mic b hi j = (nthP L9 j).1) (hml : ∀ j, j < 9 → mic b lo j = (nthP L9 j).2) (n1 : b.panels.length ≤ 1000) (n2 : b.top.length ≤ 1000) (n3 : b.bottom.length ≤ 1000) (hix : 2 + (wh % 2) = (i : Int)) (hil : i < b.panels.length) (hpi : 1 ≤ nthI b.panels i ∧ nthI b.panels i ≤ 2000) (hckw : checkErr (longer b i ((nthI b.panels i) + (bn % 9))) = 0) (hLW : closeL (longer b i ((nthI b.panels i) + (bn % 9))) vi (lo, hi) = LW) (hW0 : 1000 * ((nthI b.panels i) + (bn % 9)) - lo ≤ 1000 * (if i = 3 then vi.width.2 else vi.length.2) → LW = []) (hW1 : ¬ 1000 * ((nthI b.panels i) + (bn % 9)) - lo ≤ 1000 * (if i = 3 then vi.width.2 else vi.length.2) → LW = [((i : Int), lo)]) (hvl : -10000 ≤ vi.length.2 ∧ vi.length.2 ≤ 10000) (hvw : -10000 ≤ vi.width.2 ∧ vi.width.2 ≤ 10000) (g_ : Nat → Value) (W_ : World) (bk1 : Nat) (bk2 : Nat) (bk3 : Nat) (g10' : Nat) (c13' : Nat) (g11' : Nat) (c14' : Nat) (g12' : Nat) (c15' : Nat) (bk0 : Nat)  (k_1 : g_ 1 = .int .u8 wh) (k_2 : g_ 2 = .int .u8 bn) (k_6 : g_ 6 = .bool false) (k_7 : g_ 7 = .pointer (some ⟨bk1, 0, none⟩)) (k_8 : g_ 8 = .pointer (some ⟨bk2, 0, none⟩)) (k_9 : g_ 9 = .pointer (some ⟨bk3, 0, none⟩)) (fB_ : Below w.heap.size w W_) (bl_0 : W_.heap[bk0]? = some (.cells #[.int .u8 x.x0, .int .u8 x.x1, .int .u8 x.x2, .int .u8 x.x3, .int .u8 x.xh, .int .u8 x.y0, .int .u8 x.y1, .int .u8 x.y2, .int .u8 x.y3, .bool x.xo, .int .u8 x.ca, .int .u8 x.cb, .int .u8 x.v0, .int .u8 x.v1, .int .u8 x.v2, .int .u8 x.v3, .int .u8 x.v4] 72 (0, 0))) (bl_1 : W_.heap[bk1]? = some (.cells #[.int .i64 b.tab, .slice (some ⟨g10', 0, none⟩) (b.panels.length) (c13'), .int .i64 b.height, .slice (some ⟨g11', 0, none⟩) (b.top.length) (c14'), .slice (some ⟨g12', 0, none⟩) (b.bottom.length) (c15'), .int .i64 b.slot, .bool b.isOpen] 24 (0, 0))) (bl_2 : W_.heap[bk2]? = some (.cells #[.int .i64 lo, .int .i64 hi] 26 (0, 0))) (bl_3 : W_.heap[bk3]? = some (.cells #[.int .i64 vi.length.1, .int .i64 vi.length.2, .int .i64 vi.width.1, .int .i64 vi.width.2, .int .i64 vi.height.1, .int .i64 vi.height.2, .int .i64 vi.outer.1, .int .i64 vi.outer.2, .int .i64 vi.inner.1, .int .i64 vi.inner.2, .bool vi.isOpen] 43 (0, 0))) (ft_0 : OwnI 0 b.panels g10' c13' W_) (ft_1 : OwnI 0 b.top g11' c14' W_) (ft_2 : OwnI 0 b.bottom g12' c15' W_) (lw_bk0 : w.heap.size ≤ bk0) (lw_bk1 : w.heap.size ≤ bk1) (lw_bk2 : w.heap.size ≤ bk2) (lw_bk3 : w.heap.size ≤ bk3) (ne_0_1 : bk0 ≠ bk1) (ne_0_2 : bk0 ≠ bk2) (ne_1_2 : bk1 ≠ bk2) (ne_0_3 : bk0 ≠ bk3) (ne_1_3 : bk1 ≠ bk3) (ne_2_3 : bk2 ≠ bk3) :
    (tailC 3 (bodyC Tryz.f7)).wp Tryz.prog (bodyPost Tryz.prog Tryz.f7 (fun e w' => e = .returned (.bool true) ∧ Below w.heap.size w w')) (fr 245 g_) W_ := by
  have hq1n := Int.not_lt.2 hq1
  have hq2n := Int.not_lt.2 hq2
  have hq3n := Int.not_lt.2 hq3
  have hq4n := Int.not_lt.2 hq4
  have hL9z : ((L9.length : Int) != 9) = false := by rw [hn9]; rfl
  have lii := Nat.not_le.2 hil
  have lt_bk0 := lt_of_blk bl_0
  have lt_bk1 := lt_of_blk bl_1
  have lt_bk2 := lt_of_blk bl_2
  have lt_bk3 := lt_of_blk bl_3
  refine wp_seq_k fun K4 hK4 => ?_
  as_aux_lemma =>
  refine region_do 10 [(34, 0), (35, 1), (36, 2), (37, 3), (38, 4), (33, 5), (39, 6), (40, 7), (10, 8), (11, 9)] [[], [0], [], [], [0, 1, 2, 3], [0, 1, 2, 3, 4], [0, 1, 2, 3, 4, 5], [0, 1, 2, 3, 4, 5], [0, 1, 2, 3, 4, 5, 6], [0, 1, 2, 3, 4, 5, 6, 7, 8]] (rel [is (.agg #[.int .i64 b.tab, .slice (some ⟨g10', 0, none⟩) (b.panels.length) (c13'), .int .i64 b.height, .slice (some ⟨g11', 0, none⟩) (b.top.length) (c14'), .slice (some ⟨g12', 0, none⟩) (b.bottom.length) (c15'), .int .i64 b.slot, .bool b.isOpen]),
      fun v s W => NwBlk (s 1) (b) v W,
      is (.agg #[.int .i64 vi.length.1, .int .i64 vi.length.2, .int .i64 vi.width.1, .int .i64 vi.width.2, .int .i64 vi.height.1, .int .i64 vi.height.2, .int .i64 vi.outer.1, .int .i64 vi.outer.2, .int .i64 vi.inner.1, .int .i64 vi.inner.2, .bool vi.isOpen]),
      is (.agg #[.int .i64 lo, .int .i64 hi]),
      ab fun v W => ∃ x0, v = .tuple #[x0, .int .i64 0] ∧ IsPp L x0 W,
      ab fun v W => ∃ x0, v = .tuple #[x0, .int .i64 0] ∧ IsPp L x0 W,
      ab fun v W => IsPp L v W,
      is (.int .i64 0),
      ab fun v W => IsPp L v W,
      is (.int .i64 0)]) (by kernel_rfl) (by kernel_rfl) (by kernel_rfl) (by kernel_rfl)
    ⟨is_k, ⟨fun v k W W' hb h => h.below hb, fun v s s' W e h => by have h' : NwBlk (s 1) (b) v W := h; show NwBlk (s' 1) (b) v W; rw [← e 1 (by simp)]; exact h'⟩, is_k, is_k, ab_k fun v W W' hb ⟨x0, e, h0⟩ => ⟨x0, e, h0.below hb⟩, ab_k fun v W W' hb ⟨x0, e, h0⟩ => ⟨x0, e, h0.below hb⟩, ab_k fun v W W' hb h => h.below hb, is_k, ab_k fun v W W' hb h => h.below hb, is_k, trivial⟩
    ⟨fun f s W hW hd hs hz ac hac => opl rfl rfl rfl (hac.v 7 k_7) (blk_below bl_1 hW) Tryz.underlying24 rfl (by kernel_rfl) rfl,
    fun f s W hW hd hs hz ac hac => opDo_call (args := #[.agg #[.int .i64 b.tab, .slice (some ⟨g10', 0, none⟩) (b.panels.length) (c13'), .int .i64 b.height, .slice (some ⟨g11', 0, none⟩) (b.top.length) (c14'), .slice (some ⟨g12', 0, none⟩) (b.bottom.length) (c15'), .int .i64 b.slot, .bool b.isOpen]]) rfl rfl (by simp [go_sem, hac.e 34 (hd 0 rfl)]) (own_any _ _ _ _ _ _ b W ((ft_0.below hW)).ii ((ft_1.below hW)).ii ((ft_2.below hW)).ii n1 n2 n3) (fun e W' h => by obtain ⟨v, e1, h1, h2⟩ := h; exact ⟨v, e1, h2, (show NwBlk (upd s 1 W.heap.size 1) (b) v W' from by rw [upd_at]; exact h1)⟩),
    fun f s W hW hd hs hz ac hac => opl rfl rfl rfl (hac.v 9 k_9) (blk_below bl_3 hW) Tryz.underlying43 rfl (by kernel_rfl) rfl,
    fun f s W hW hd hs hz ac hac => opv rfl rfl (by simp [go_sem, hac.e 8 k_8, Joins.cell_of_block (blk_below bl_2 hW) 0, Joins.cell_of_block (blk_below bl_2 hW) 1]) rfl,
    fun f s W hW hd hs hz ac hac => by obtain ⟨g31', c34', g32', c35', g33', c36', d1, ⟨q37', q39', q38'⟩, ⟨q40', q42', q41'⟩, ⟨q43', q45', q44'⟩⟩ := (hd 1 rfl); exact opDo_call (args := #[.agg #[.int .i64 b.tab, .slice (some ⟨g31', 0, none⟩) (b.panels.length) (c34'), .int .i64 b.height, .slice (some ⟨g32', 0, none⟩) (b.top.length) (c35'), .slice (some ⟨g33', 0, none⟩) (b.bottom.length) (c36'), .int .i64 b.slot, .bool b.isOpen], .agg #[.int .i64 vi.length.1, .int .i64 vi.length.2, .int .i64 vi.width.1, .int .i64 vi.width.2, .int .i64 vi.height.1, .int .i64 vi.height.2, .int .i64 vi.outer.1, .int .i64 vi.outer.2, .int .i64 vi.inner.1, .int .i64 vi.inner.2, .bool vi.isOpen], .agg #[.int .i64 lo, .int .i64 hi]]) rfl rfl (by simp [go_sem, hac.e 35 d1, hac.e 36 (hd 2 rfl), hac.e 37 (hd 3 rfl)]) (close_ok vi lo hi W ⟨_, _, _, _, _, _, _, _, _, rfl, q37', q40', q43'⟩ hck hwv j1 j2 j3) ((fun e W' h => by obtain ⟨x, e1, h1, h2⟩ := h; rw [hL] at h1; exact ⟨_, e1, h2, _, rfl, h1⟩)),
    fun f s W hW hd hs hz ac hac => opv (v := (f 4)) rfl rfl (by simp [go_sem, (hac.at' 38 rfl : ac.tmps[38]?.getD undef = f 4)] <;> rfl) (hd 4 rfl),
    fun f s W hW hd hs hz ac hac => by obtain ⟨x5_0, d5, p5_0⟩ := (hd 5 rfl); exact opv (v := x5_0) rfl rfl (by simp [go_sem, hac.e 33 d5]) p5_0,
    fun f s W hW hd hs hz ac hac => by obtain ⟨x5_0, d5, p5_0⟩ := (hd 5 rfl); exact opv rfl rfl (by simp [go_sem, hac.e 33 d5]) rfl,
    fun f s W hW hd hs hz ac hac => opv (v := (f 6)) rfl rfl (by simp [go_sem, (hac.at' 39 rfl : ac.tmps[39]?.getD undef = f 6)] <;> rfl) (hd 6 rfl),
    fun f s W hW hd hs hz ac hac => opv rfl rfl (by simp [go_sem, hac.e 40 (hd 7 rfl)]) rfl, trivial⟩ ?_
  intro f7 s7 W7 hB7
  have fB7 : Below w.heap.size w W7 := below_trans fB_ hB7.below
  have z7 : W_.heap.size ≤ W7.heap.size := hB7.below.size
  have b7_0 := blk_below bl_0 hB7.below
  have b7_1 := blk_below bl_1 hB7.below
  have b7_2 := blk_below bl_2 hB7.below
  have b7_3 := blk_below bl_3 hB7.below
  have q49' := (ft_0.below hB7.below)
  have q50' := (ft_1.below hB7.below)
  have q51' := (ft_2.below hB7.below)
  obtain ⟨a52', c53', r7_8, q54'⟩ := hB7.is 8
  have lim55' := Pp.lim q54'
  refine hK4 _ _ ?_
  generalize hg7 : ov [(34, 0), (35, 1), (36, 2), (37, 3), (38, 4), (33, 5), (39, 6), (40, 7), (10, 8), (11, 9)] f7 g_ = g7
  have k7_1 := kt hg7 1 k_1
  have k7_2 := kt hg7 2 k_2
  have k7_6 := kt hg7 6 k_6
  have k7_7 := kt hg7 7 k_7
  have k7_8 := kt hg7 8 k_8
  have k7_9 := kt hg7 9 k_9
  have k7_10 := kt hg7 10 r7_8
  have k7_11 := kt hg7 11 (hB7.is 9)
  exact folds_main_c4 x gx wh bn hwh hbn b d vi lo hi q1 q2 L L9 LW i w hbx ht hcx hto hv hkd hck hwv j1 j2 j3 hL hL0 hF hq hq1 hq2 hq3 hq4 hL9 hn9 hmic hmh hml n1 n2 n3 hix hil hpi hckw hLW hW0 hW1 hvl hvw g7 W7 bk1 bk2 bk3 a52' c53' g10' c13' g11' c14' g12' c15' bk0 k7_1 k7_2 k7_6 k7_7 k7_8 k7_9 k7_10 k7_11 fB7 b7_0 b7_1 b7_2 b7_3 q49' q50' q51' q54' (by omega) (by omega) (by omega) (by omega) (by omega) (by omega) (by omega) (by omega) (by omega) (by omega)
end Go.Proofs.YthnediamopehfaaGreat
namespace Go.Proofs.YthnediamopehfaaGreat
open Go.RowKit
set_option maxRecDepth 100000 in
set_option maxHeartbeats 40000000 in
theorem folds_main_c2 (x : Sh) (gx : ShIn x) (wh bn : Int) (hwh : 0 ≤ wh ∧ wh ≤ 255) (hbn : 0 ≤ bn ∧ bn ≤ 255) (b d : Bl) (vi : Wi) (lo hi q1 q2 : Int) (L L9 LW : List Sp) (i : Nat) (w : World) (hbx : shBl x = d) (ht : twinB d = b) (hcx : shCal x = (lo, hi)) (hto : b.isOpen = vi.isOpen) (hv : wishOf x b lo hi = vi) (hkd : checkErr d = 0) (hck : checkErr b = 0) (hwv : wishErr vi = 0) (j1 : 1 ≤ lo) (j2 : lo ≤ hi) (j3 : hi ≤ 10000) (hL : closeL b vi (lo, hi) = L) (hL0 : ((L.length : Int) != 0) = false) (hF : calErr b vi = 0) (hq : calOf b vi = (q1, q2)) (hq1 : q1 ≤ lo) (hq2 : hi ≤ q2) (hq3 : 1 ≤ q1) (hq4 : q2 ≤ 10000) (hL9 : innerL b (lo, hi) 0 = L9) (hn9 : L9.length = 9) (hmic : ∀ j c, j < 9 → lo ≤ c → c ≤ hi → (nthP L9 j).1 ≤ mic b c j ∧ mic b c j ≤ (nthP L9 j).2) (hmh : ∀ j, j < 9 → mic b hi j = (nthP L9 j).1) (hml : ∀ j, j < 9 → mic b lo j = (nthP L9 j).2) (n1 : b.panels.length ≤ 1000) (n2 : b.top.length ≤ 1000) (n3 : b.bottom.length ≤ 1000) (hix : 2 + (wh % 2) = (i : Int)) (hil : i < b.panels.length) (hpi : 1 ≤ nthI b.panels i ∧ nthI b.panels i ≤ 2000) (hckw : checkErr (longer b i ((nthI b.panels i) + (bn % 9))) = 0) (hLW : closeL (longer b i ((nthI b.panels i) + (bn % 9))) vi (lo, hi) = LW) (hW0 : 1000 * ((nthI b.panels i) + (bn % 9)) - lo ≤ 1000 * (if i = 3 then vi.width.2 else vi.length.2) → LW = []) (hW1 : ¬ 1000 * ((nthI b.panels i) + (bn % 9)) - lo ≤ 1000 * (if i = 3 then vi.width.2 else vi.length.2) → LW = [((i : Int), lo)]) (hvl : -10000 ≤ vi.length.2 ∧ vi.length.2 ≤ 10000) (hvw : -10000 ≤ vi.width.2 ∧ vi.width.2 ≤ 10000) (g_ : Nat → Value) (W_ : World) (bk0 : Nat) (g10' : Nat) (c13' : Nat) (g11' : Nat) (c14' : Nat) (g12' : Nat) (c15' : Nat) (bk1 : Nat) (bk2 : Nat)  (k_1 : g_ 1 = .int .u8 wh) (k_2 : g_ 2 = .int .u8 bn) (k_3 : g_ 3 = .pointer (some ⟨bk0, 0, none⟩)) (k_6 : g_ 6 = .bool false) (k_7 : g_ 7 = .pointer (some ⟨bk1, 0, none⟩)) (k_8 : g_ 8 = .pointer (some ⟨bk2, 0, none⟩)) (fB_ : Below w.heap.size w W_) (bl_0 : W_.heap[bk0]? = some (.cells #[.int .u8 x.x0, .int .u8 x.x1, .int .u8 x.x2, .int .u8 x.x3, .int .u8 x.xh, .int .u8 x.y0, .int .u8 x.y1, .int .u8 x.y2, .int .u8 x.y3, .bool x.xo, .int .u8 x.ca, .int .u8 x.cb, .int .u8 x.v0, .int .u8 x.v1, .int .u8 x.v2, .int .u8 x.v3, .int .u8 x.v4] 72 (0, 0))) (bl_1 : W_.heap[bk1]? = some (.cells #[.int .i64 b.tab, .slice (some ⟨g10', 0, none⟩) (b.panels.length) (c13'), .int .i64 b.height, .slice (some ⟨g11', 0, none⟩) (b.top.length) (c14'), .slice (some ⟨g12', 0, none⟩) (b.bottom.length) (c15'), .int .i64 b.slot, .bool b.isOpen] 24 (0, 0))) (bl_2 : W_.heap[bk2]? = some (.cells #[.int .i64 lo, .int .i64 hi] 26 (0, 0))) (ft_0 : OwnI 0 b.panels g10' c13' W_) (ft_1 : OwnI 0 b.top g11' c14' W_) (ft_2 : OwnI 0 b.bottom g12' c15' W_) (lw_bk0 : w.heap.size ≤ bk0) (lw_bk1 : w.heap.size ≤ bk1) (lw_bk2 : w.heap.size ≤ bk2) (ne_0_1 : bk0 ≠ bk1) (ne_0_2 : bk0 ≠ bk2) (ne_1_2 : bk1 ≠ bk2) :
    (tailC 2 (bodyC Tryz.f7)).wp Tryz.prog (bodyPost Tryz.prog Tryz.f7 (fun e w' => e = .returned (.bool true) ∧ Below w.heap.size w w')) (fr 245 g_) W_ := by
  have hq1n := Int.not_lt.2 hq1
  have hq2n := Int.not_lt.2 hq2
  have hq3n := Int.not_lt.2 hq3
  have hq4n := Int.not_lt.2 hq4
  have hL9z : ((L9.length : Int) != 9) = false := by rw [hn9]; rfl
  have lii := Nat.not_le.2 hil
  have lt_bk0 := lt_of_blk bl_0
  have lt_bk1 := lt_of_blk bl_1
  have lt_bk2 := lt_of_blk bl_2
  refine wp_seq_k fun K3 hK3 => ?_
  as_aux_lemma =>
  refine region_do 5 [(29, 0), (30, 1), (31, 2), (32, 3), (9, 4)] [[], [], [], [0, 1, 2], [], [0, 1, 2, 3, 4]] (rel [is (.agg #[.int .u8 x.x0, .int .u8 x.x1, .int .u8 x.x2, .int .u8 x.x3, .int .u8 x.xh, .int .u8 x.y0, .int .u8 x.y1, .int .u8 x.y2, .int .u8 x.y3, .bool x.xo, .int .u8 x.ca, .int .u8 x.cb, .int .u8 x.v0, .int .u8 x.v1, .int .u8 x.v2, .int .u8 x.v3, .int .u8 x.v4]),
      is (.agg #[.int .i64 b.tab, .slice (some ⟨g10', 0, none⟩) (b.panels.length) (c13'), .int .i64 b.height, .slice (some ⟨g11', 0, none⟩) (b.top.length) (c14'), .slice (some ⟨g12', 0, none⟩) (b.bottom.length) (c15'), .int .i64 b.slot, .bool b.isOpen]),
      is (.agg #[.int .i64 lo, .int .i64 hi]),
      is (.agg #[.int .i64 vi.length.1, .int .i64 vi.length.2, .int .i64 vi.width.1, .int .i64 vi.width.2, .int .i64 vi.height.1, .int .i64 vi.height.2, .int .i64 vi.outer.1, .int .i64 vi.outer.2, .int .i64 vi.inner.1, .int .i64 vi.inner.2, .bool vi.isOpen]),
      bx 4 #[.int .i64 0, .int .i64 0, .int .i64 0, .int .i64 0, .int .i64 0, .int .i64 0, .int .i64 0, .int .i64 0, .int .i64 0, .int .i64 0, .bool false] 43]) (by kernel_rfl) (by kernel_rfl) (by kernel_rfl) (by kernel_rfl)
    ⟨is_k, is_k, is_k, is_k, bx_k, trivial⟩
    ⟨fun f s W hW hd hs hz ac hac => opl rfl rfl rfl (hac.v 3 k_3) (blk_below bl_0 hW) Tryz.underlying72 rfl (by kernel_rfl) rfl,
    fun f s W hW hd hs hz ac hac => opl rfl rfl rfl (hac.v 7 k_7) (blk_below bl_1 hW) Tryz.underlying24 rfl (by kernel_rfl) rfl,
    fun f s W hW hd hs hz ac hac => opv rfl rfl (by simp [go_sem, hac.e 8 k_8, Joins.cell_of_block (blk_below bl_2 hW) 0, Joins.cell_of_block (blk_below bl_2 hW) 1]) rfl,
    fun f s W hW hd hs hz ac hac => opDo_call (args := #[.agg #[.int .u8 x.x0, .int .u8 x.x1, .int .u8 x.x2, .int .u8 x.x3, .int .u8 x.xh, .int .u8 x.y0, .int .u8 x.y1, .int .u8 x.y2, .int .u8 x.y3, .bool x.xo, .int .u8 x.ca, .int .u8 x.cb, .int .u8 x.v0, .int .u8 x.v1, .int .u8 x.v2, .int .u8 x.v3, .int .u8 x.v4], .agg #[.int .i64 b.tab, .slice (some ⟨g10', 0, none⟩) (b.panels.length) (c13'), .int .i64 b.height, .slice (some ⟨g11', 0, none⟩) (b.top.length) (c14'), .slice (some ⟨g12', 0, none⟩) (b.bottom.length) (c15'), .int .i64 b.slot, .bool b.isOpen], .agg #[.int .i64 lo, .int .i64 hi]]) rfl rfl (by simp [go_sem, hac.e 29 (hd 0 rfl), hac.e 30 (hd 1 rfl), hac.e 31 (hd 2 rfl)]) (wished_blk x gx _ _ _ _ _ _ b lo hi W ((ft_0.below hW)).ii ((ft_1.below hW)).ii ((ft_2.below hW)).ii hck (by omega) (by omega)) ((fun e W' h => by have h1 := h.1; rw [hto, hv] at h1; exact ⟨_, h1, h.2, rfl⟩)),
    fun f s W hW hd hs hz ac hac => opb rfl rfl (by simp [go_sem]), trivial⟩ ?_
  intro f5 s5 W5 hB5
  have fB5 : Below w.heap.size w W5 := below_trans fB_ hB5.below
  have z5 : W_.heap.size ≤ W5.heap.size := hB5.below.size
  have b5_0 := blk_below bl_0 hB5.below
  have b5_1 := blk_below bl_1 hB5.below
  have b5_2 := blk_below bl_2 hB5.below
  have q25' := (ft_0.below hB5.below)
  have q26' := (ft_1.below hB5.below)
  have q27' := (ft_2.below hB5.below)
  obtain ⟨r5_4, br5_4⟩ := hB5.is 4
  have lr5_4 : W_.heap.size ≤ s5 4 ∧ s5 4 < W5.heap.size := ⟨hB5.from' 4 (by decide), lt_of_blk br5_4⟩
  generalize hg5 : ov [(29, 0), (30, 1), (31, 2), (32, 3), (9, 4)] f5 g_ = g5
  have k5_1 := kt hg5 1 k_1
  have k5_2 := kt hg5 2 k_2
  have k5_6 := kt hg5 6 k_6
  have k5_7 := kt hg5 7 k_7
  have k5_8 := kt hg5 8 k_8
  have k5_32 := kt hg5 32 (hB5.is 3)
  have k5_9 := kt hg5 9 r5_4
  obtain ⟨W6, hW6⟩ : ∃ W', W' = W5.setRow (s5 4) #[.int .i64 vi.length.1, .int .i64 vi.length.2, .int .i64 vi.width.1, .int .i64 vi.width.2, .int .i64 vi.height.1, .int .i64 vi.height.2, .int .i64 vi.outer.1, .int .i64 vi.outer.2, .int .i64 vi.inner.1, .int .i64 vi.inner.2, .bool vi.isOpen] := ⟨_, rfl⟩
  refine tail_skip (o := _) rfl ⟨rfl, rfl⟩ (run_seg hW6 (fr_ev k5_9) (fr_ev k5_32) br5_4 rfl rfl rfl rfl) ?_
  obtain ⟨fB6, nb6, ot6, z6⟩ := seg_facts hW6 fB5 br5_4 (by omega)
  clear hW6
  have b6_0 := ot6 _ _ (by omega) b5_0
  have b6_1 := ot6 _ _ (by omega) b5_1
  have b6_2 := ot6 _ _ (by omega) b5_2
  have q28' := q25'.other ot6 (own_ne q25' br5_4) z6
  have q29' := q26'.other ot6 (own_ne q26' br5_4) z6
  have q30' := q27'.other ot6 (own_ne q27' br5_4) z6
  refine wpOps_end ?_
  refine hK3 _ _ ?_
  exact folds_main_c3 x gx wh bn hwh hbn b d vi lo hi q1 q2 L L9 LW i w hbx ht hcx hto hv hkd hck hwv j1 j2 j3 hL hL0 hF hq hq1 hq2 hq3 hq4 hL9 hn9 hmic hmh hml n1 n2 n3 hix hil hpi hckw hLW hW0 hW1 hvl hvw g5 W6 bk1 bk2 (s5 4) g10' c13' g11' c14' g12' c15' bk0 k5_1 k5_2 k5_6 k5_7 k5_8 k5_9 fB6 b6_0 b6_1 b6_2 nb6 q28' q29' q30' (by omega) (by omega) (by omega) (by omega) (by omega) (by omega) (by omega) (by omega) (by omega) (by omega)
end Go.Proofs.YthnediamopehfaaGreat
namespace Go.Proofs.YthnediamopehfaaGreat
open Go.RowKit
set_option maxRecDepth 100000 in
set_option maxHeartbeats 40000000 in
theorem folds_main (x : Sh) (gx : ShIn x) (wh bn : Int) (hwh : 0 ≤ wh ∧ wh ≤ 255) (hbn : 0 ≤ bn ∧ bn ≤ 255) (b d : Bl) (vi : Wi) (lo hi q1 q2 : Int) (L L9 LW : List Sp) (i : Nat) (w : World) (hbx : shBl x = d) (ht : twinB d = b) (hcx : shCal x = (lo, hi)) (hto : b.isOpen = vi.isOpen) (hv : wishOf x b lo hi = vi) (hkd : checkErr d = 0) (hck : checkErr b = 0) (hwv : wishErr vi = 0) (j1 : 1 ≤ lo) (j2 : lo ≤ hi) (j3 : hi ≤ 10000) (hL : closeL b vi (lo, hi) = L) (hL0 : ((L.length : Int) != 0) = false) (hF : calErr b vi = 0) (hq : calOf b vi = (q1, q2)) (hq1 : q1 ≤ lo) (hq2 : hi ≤ q2) (hq3 : 1 ≤ q1) (hq4 : q2 ≤ 10000) (hL9 : innerL b (lo, hi) 0 = L9) (hn9 : L9.length = 9) (hmic : ∀ j c, j < 9 → lo ≤ c → c ≤ hi → (nthP L9 j).1 ≤ mic b c j ∧ mic b c j ≤ (nthP L9 j).2) (hmh : ∀ j, j < 9 → mic b hi j = (nthP L9 j).1) (hml : ∀ j, j < 9 → mic b lo j = (nthP L9 j).2) (n1 : b.panels.length ≤ 1000) (n2 : b.top.length ≤ 1000) (n3 : b.bottom.length ≤ 1000) (hix : 2 + (wh % 2) = (i : Int)) (hil : i < b.panels.length) (hpi : 1 ≤ nthI b.panels i ∧ nthI b.panels i ≤ 2000) (hckw : checkErr (longer b i ((nthI b.panels i) + (bn % 9))) = 0) (hLW : closeL (longer b i ((nthI b.panels i) + (bn % 9))) vi (lo, hi) = LW) (hW0 : 1000 * ((nthI b.panels i) + (bn % 9)) - lo ≤ 1000 * (if i = 3 then vi.width.2 else vi.length.2) → LW = []) (hW1 : ¬ 1000 * ((nthI b.panels i) + (bn % 9)) - lo ≤ 1000 * (if i = 3 then vi.width.2 else vi.length.2) → LW = [((i : Int), lo)]) (hvl : -10000 ≤ vi.length.2 ∧ vi.length.2 ≤ 10000) (hvw : -10000 ≤ vi.width.2 ∧ vi.width.2 ≤ 10000) :
  Calls Tryz.prog 7 #[.agg #[.int .u8 x.x0, .int .u8 x.x1, .int .u8 x.x2, .int .u8 x.x3, .int .u8 x.xh, .int .u8 x.y0, .int .u8 x.y1, .int .u8 x.y2, .int .u8 x.y3, .bool x.xo, .int .u8 x.ca, .int .u8 x.cb, .int .u8 x.v0, .int .u8 x.v1, .int .u8 x.v2, .int .u8 x.v3, .int .u8 x.v4], .int .u8 wh, .int .u8 bn] w (fun e w' => e = .returned (.bool true) ∧ Below w.heap.size w w') := by
 have hq1n := Int.not_lt.2 hq1
 have hq2n := Int.not_lt.2 hq2
 have hq3n := Int.not_lt.2 hq3
 have hq4n := Int.not_lt.2 hq4
 have hL9z : ((L9.length : Int) != 9) = false := by rw [hn9]; rfl
 have lii := Nat.not_le.2 hil
 refine calls_fr Tryz.func7 Tryz.ntmps7 rfl rfl fun g hg => ?_
 have k0 : g 0 = .agg #[.int .u8 x.x0, .int .u8 x.x1, .int .u8 x.x2, .int .u8 x.x3, .int .u8 x.xh, .int .u8 x.y0, .int .u8 x.y1, .int .u8 x.y2, .int .u8 x.y3, .bool x.xo, .int .u8 x.ca, .int .u8 x.cb, .int .u8 x.v0, .int .u8 x.v1, .int .u8 x.v2, .int .u8 x.v3, .int .u8 x.v4] := hg 0
 have k1 : g 1 = .int .u8 wh := hg 1
 have k2 : g 2 = .int .u8 bn := hg 2
 clear hg
 have fB0 : Below w.heap.size w w := Below.refl _ _
 refine wp_seq_k fun K1 hK1 => ?_
 as_aux_lemma =>
 refine region_dk 2 [(3, 0), (6, 1)] [[], []] (rel [bx 0 #[.int .u8 x.x0, .int .u8 x.x1, .int .u8 x.x2, .int .u8 x.x3, .int .u8 x.xh, .int .u8 x.y0, .int .u8 x.y1, .int .u8 x.y2, .int .u8 x.y3, .bool x.xo, .int .u8 x.ca, .int .u8 x.cb, .int .u8 x.v0, .int .u8 x.v1, .int .u8 x.v2, .int .u8 x.v3, .int .u8 x.v4] 72,
   is (.bool false)])
  ⟨bx_k, is_k, trivial⟩
  ⟨fun f s W k l m n p a => opb rfl rfl (by simp [go_sem, a.e 0 k0]),
  fun f s W k l m n p a => opv rfl rfl (by simp [go_sem]) rfl, trivial⟩ ?_
 intro f1 s1 W1 hB1 g1 hg1
 have fB1 := hB1.f fB0
 have z1 := hB1.below.size
 obtain ⟨r1_0, br1_0⟩ := hB1.is 0
 have lr1_0 := hB1.lr 0 br1_0
 refine hK1 _ _ ?_
 have k1_1 := kt hg1 1 k1
 have k1_2 := kt hg1 2 k2
 have k1_3 := kt hg1 3 r1_0
 have k1_6 := kt hg1 6 (hB1.is 1)
 refine wp_seq_k fun K2 hK2 => ?_
 as_aux_lemma =>
 refine region_dk 7 [(24, 0), (25, 1), (26, 2), (27, 3), (28, 4), (7, 5), (8, 6)] [[], [0], [0, 1], [], [0, 1, 2, 3], [], [], [0, 1, 2, 3, 4, 5, 6], [0, 1, 2, 3, 4, 5, 6, 7]] (rel [is (.agg #[.int .u8 x.x0, .int .u8 x.x1, .int .u8 x.x2, .int .u8 x.x3, .int .u8 x.xh, .int .u8 x.y0, .int .u8 x.y1, .int .u8 x.y2, .int .u8 x.y3, .bool x.xo, .int .u8 x.ca, .int .u8 x.cb, .int .u8 x.v0, .int .u8 x.v1, .int .u8 x.v2, .int .u8 x.v3, .int .u8 x.v4]),
   ab fun v W => TyBlk 0 d v W,
   ab fun v W => TyBlk 0 b v W,
   is (.agg #[.int .u8 x.x0, .int .u8 x.x1, .int .u8 x.x2, .int .u8 x.x3, .int .u8 x.xh, .int .u8 x.y0, .int .u8 x.y1, .int .u8 x.y2, .int .u8 x.y3, .bool x.xo, .int .u8 x.ca, .int .u8 x.cb, .int .u8 x.v0, .int .u8 x.v1, .int .u8 x.v2, .int .u8 x.v3, .int .u8 x.v4]),
   is (.agg #[.int .i64 lo, .int .i64 hi]),
   bx 5 #[.int .i64 0, .slice (none) (0) (0), .int .i64 0, .slice (none) (0) (0), .slice (none) (0) (0), .int .i64 0, .bool false] 24,
   bx 6 #[.int .i64 0, .int .i64 0] 26])
  ⟨is_k, ab_k fun v W W' hb h => h.below hb, ab_k fun v W W' hb h => h.below hb, is_k, is_k, bx_k, bx_k, trivial⟩
  ⟨fun f s W k l m n p a => opl rfl rfl rfl (a.v 3 k1_3) (blk_below br1_0 k) Tryz.underlying72 rfl (by kernel_rfl) rfl,
  fun f s W k l m n p a => opDo_call (args := #[.agg #[.int .u8 x.x0, .int .u8 x.x1, .int .u8 x.x2, .int .u8 x.x3, .int .u8 x.xh, .int .u8 x.y0, .int .u8 x.y1, .int .u8 x.y2, .int .u8 x.y3, .bool x.xo, .int .u8 x.ca, .int .u8 x.cb, .int .u8 x.v0, .int .u8 x.v1, .int .u8 x.v2, .int .u8 x.v3, .int .u8 x.v4]]) rfl rfl (by simp [go_sem, a.e 24 (l 0 rfl)]) ((hbx ▸ sheet_b x gx W : Calls _ _ _ W (TyBlkP d W))) ((fun e W' h => by obtain ⟨v, e1, h1, h2⟩ := h; exact ⟨_, e1, h2, h1.low (Nat.zero_le _)⟩)),
  fun f s W k l m n p a => by obtain ⟨g1', c4', g2', c5', g3', c6', d1, q7', q8', q9'⟩ := (l 1 rfl); exact opDo_call (args := #[.agg #[.int .i64 d.tab, .slice (some ⟨g1', 0, none⟩) (d.panels.length) (c4'), .int .i64 d.height, .slice (some ⟨g2', 0, none⟩) (d.top.length) (c5'), .slice (some ⟨g3', 0, none⟩) (d.bottom.length) (c6'), .int .i64 d.slot, .bool d.isOpen]]) rfl rfl (by simp [go_sem, a.e 25 d1]) (twin_ty d W ⟨_, _, _, _, _, _, rfl, q7', q8', q9'⟩ hkd) ((fun e W' h => by obtain ⟨v, e1, h1, h2⟩ := h; rw [ht] at h1; exact ⟨_, e1, h2, h1⟩)),
  fun f s W k l m n p a => opl rfl rfl rfl (a.v 3 k1_3) (blk_below br1_0 k) Tryz.underlying72 rfl (by kernel_rfl) rfl,
  fun f s W k l m n p a => opDo_call rfl rfl (by simp [go_sem, a.e 27 (l 3 rfl)]) (sheet_c x gx W) ((fun e W' h => by have h1 := h.1; rw [hcx] at h1; exact ⟨_, h1, h.2, rfl⟩)),
  fun f s W k l m n p a => opb rfl rfl (by simp [go_sem]),
  fun f s W k l m n p a => opb rfl rfl (by simp [go_sem]), trivial⟩ ?_
 intro f2 s2 W2 hB2 g2 hg2
 have fB2 := hB2.f fB1
 have z2 := hB2.below.size
 have b2_0 := hB2.b br1_0
 obtain ⟨g10', c13', g11', c14', g12', c15', r2_2, q16', q17', q18'⟩ := hB2.is 2
 obtain ⟨r2_5, br2_5⟩ := hB2.is 5
 have lr2_5 := hB2.lr 5 br2_5
 obtain ⟨r2_6, br2_6⟩ := hB2.is 6
 have lr2_6 := hB2.lr 6 br2_6
 have ne2_5_6 := hB2.nb 5 6
 have k2_1 := kt hg2 1 k1_1
 have k2_2 := kt hg2 2 k1_2
 have k2_3 := kt hg2 3 k1_3
 have k2_6 := kt hg2 6 k1_6
 have k2_26 := kt hg2 26 r2_2
 have k2_28 := kt hg2 28 (hB2.is 4)
 have k2_7 := kt hg2 7 r2_5
 have k2_8 := kt hg2 8 r2_6
 obtain ⟨W3, hW3⟩ : ∃ W', W' = W2.setRow (s2 5) #[.int .i64 b.tab, .slice (some ⟨g10', 0, none⟩) (b.panels.length) (c13'), .int .i64 b.height, .slice (some ⟨g11', 0, none⟩) (b.top.length) (c14'), .slice (some ⟨g12', 0, none⟩) (b.bottom.length) (c15'), .int .i64 b.slot, .bool b.isOpen] := ⟨_, rfl⟩
 refine tail_skip (o := _) rfl ⟨rfl, rfl⟩ (run_seg hW3 (fr_ev k2_7) (fr_ev k2_26) br2_5 rfl rfl rfl rfl) ?_
 obtain ⟨fB3, nb3, ot3, z3⟩ := seg_facts hW3 fB2 br2_5 (by omega)
 clear hW3
 have b3_0 := ot3 _ _ (by omega) b2_0
 have b3_2 := ot3 _ _ (by omega) br2_6
 have q19' := q16'.other ot3 (own_ne q16' br2_5) z3
 have q20' := q17'.other ot3 (own_ne q17' br2_5) z3
 have q21' := q18'.other ot3 (own_ne q18' br2_5) z3
 obtain ⟨W4, hW4⟩ : ∃ W', W' = W3.setRow (s2 6) #[.int .i64 lo, .int .i64 hi] := ⟨_, rfl⟩
 refine tail_skip (o := _) rfl ⟨rfl, rfl⟩ (run_seg hW4 (fr_ev k2_8) (fr_ev k2_28) b3_2 rfl rfl rfl rfl) ?_
 obtain ⟨fB4, nb4, ot4, z4⟩ := seg_facts hW4 fB3 b3_2 (by omega)
 clear hW4
 have b4_0 := ot4 _ _ (by omega) b3_0
 have b4_1 := ot4 _ _ (by omega) nb3
 have q22' := q19'.other ot4 (own_ne q19' b3_2) z4
 have q23' := q20'.other ot4 (own_ne q20' b3_2) z4
 have q24' := q21'.other ot4 (own_ne q21' b3_2) z4
 refine wpOps_end ?_
 refine hK2 _ _ ?_
 exact folds_main_c2 x gx wh bn hwh hbn b d vi lo hi q1 q2 L L9 LW i w hbx ht hcx hto hv hkd hck hwv j1 j2 j3 hL hL0 hF hq hq1 hq2 hq3 hq4 hL9 hn9 hmic hmh hml n1 n2 n3 hix hil hpi hckw hLW hW0 hW1 hvl hvw g2 W4 (s1 0) g10' c13' g11' c14' g12' c15' (s2 5) (s2 6) k2_1 k2_2 k2_3 k2_6 k2_7 k2_8 fB4 b4_0 b4_1 nb4 q22' q23' q24' (by omega) (by omega) (by omega) (by omega) (by omega) (by omega)
theorem lim_bd (s : Sp) (least most : Int) (h1 : -3000 ≤ least) (h2 : least ≤ most) (h3 : most ≤ 3000) : -10000 ≤ (limS s least most).2 ∧ (limS s least most).2 ≤ 10000 := by
  unfold limS; simp only; omega
theorem folds_law (x : Sh) (wh bn : Int) (gx : ShIn x) (hwh : 0 ≤ wh ∧ wh ≤ 255) (hbn : 0 ≤ bn ∧ bn ≤ 255) (w : World) : Calls Tryz.prog 7 #[.agg #[.int .u8 x.x0, .int .u8 x.x1, .int .u8 x.x2, .int .u8 x.x3, .int .u8 x.xh, .int .u8 x.y0, .int .u8 x.y1, .int .u8 x.y2, .int .u8 x.y3, .bool x.xo, .int .u8 x.ca, .int .u8 x.cb, .int .u8 x.v0, .int .u8 x.v1, .int .u8 x.v2, .int .u8 x.v3, .int .u8 x.v4], .int .u8 wh, .int .u8 bn] w (fun e w' => e = .returned (.bool true) ∧ Below w.heap.size w w') := by
  have hkd := shBl_ok gx
  have hck := twin_ok hkd
  obtain ⟨c1, c2, c3⟩ := shCal_in gx
  have hwv : wishErr (wishOf x (twinB (shBl x)) (shCal x).1 (shCal x).2) = 0 := wish_ok x _ c2
  have hnil := fold_nil gx
  have hc := (close_cal hck hwv c1 c2 c3).1 hnil
  have hci := cal_in hc.1
  obtain ⟨i, hi⟩ : ∃ i : Nat, 2 + wh % 2 = (i : Int) := ⟨(2 + wh % 2).toNat, by omega⟩
  have hi' : i = 2 ∨ i = 3 := by omega
  have hp : 1 ≤ nthI (twinB (shBl x)).panels i ∧ nthI (twinB (shBl x)).panels i ≤ 2000 := by
    obtain ⟨h0, h1, -⟩ := gx
    rcases hi' with rfl | rfl
    · show 1 ≤ 60 + x.x0 ∧ 60 + x.x0 ≤ 2000; omega
    · show 1 ≤ 60 + x.x1 ∧ 60 + x.x1 ≤ 2000; omega
  have hlc := longer_close (n := nthI (twinB (shBl x)).panels i + bn % 9) c2 hnil hi' (by show nthI (twinB (shBl x)).panels i ≤ _; omega) rfl c1 c3
  refine folds_main x gx wh bn hwh hbn (twinB (shBl x)) (shBl x) (wishOf x (twinB (shBl x)) (shCal x).1 (shCal x).2) (shCal x).1 (shCal x).2 (calOf (twinB (shBl x)) (wishOf x (twinB (shBl x)) (shCal x).1 (shCal x).2)).1 (calOf (twinB (shBl x)) (wishOf x (twinB (shBl x)) (shCal x).1 (shCal x).2)).2 [] (innerL (twinB (shBl x)) ((shCal x).1, (shCal x).2) 0) _ i w rfl rfl rfl rfl rfl hkd hck hwv c1 c2 c3 hnil rfl hc.1 rfl hc.2.1 hc.2.2 hci.1 hci.2.1 rfl (inner_len hck _ _)
    (fun j c hj h1 h2 => by rw [inner_at hck _ _ hj]; exact ⟨mic_le _ h2 j, mic_le _ h1 j⟩) (fun j hj => by rw [inner_at hck _ _ hj]) (fun j hj => by rw [inner_at hck _ _ hj])
    (by show 4 ≤ 1000; decide) (top_le x) (by show 2 ≤ 1000; decide) hi (by show i < 4; omega) hp (longer_ok hck hi' (by omega) (by omega)) rfl (fun h => by rw [hlc, if_pos h]) (fun h => by rw [hlc, if_neg h]) (lim_bd _ 0 3000 (by decide) (by decide) (by decide)) (lim_bd _ 0 3000 (by decide) (by decide) (by decide))
end Go.Proofs.YthnediamopehfaaGreat
namespace Go.Proofs.YthnediamopehfaaGreat
open Go.ChangeShapes Go.WideShapes Go.ChangeAt Go.RowKit
theorem bounds_u8 {n : Int} (h : (Lit.int .u8 n).wf = true) : 0 ≤ n ∧ n ≤ 255 := by
  simp only [Lit.wf, Bool.and_eq_true, decide_eq_true_eq] at h
  exact h
/-- Small whole numbers in an array: each cell is one. -/
theorem open_arr {k : IntKind} {e : TypeId} {H : Type} {enc : TypeId × Value → H} {W : World} {spare : Nat → Bool} {held : Bool} {fuel n : Nat} {t : TypeId} {cs : List Value} {y : DataW H × List MemPlace} (he : Tryz.prog.underlying e = some (.int k)) (hc : Tryz.prog.cellsOf e = 1) (ht : Tryz.prog.underlying t = some (.array n e)) (hf : DataW.trod enc Tryz.prog W 0 spare held fuel t cs = some y) (hn : cs.length = n) :
    ∀ i, i < n → ∃ x, cs[i]? = some (.int k x) ∧ (Lit.int k x).wf = true := by
  obtain ⟨xs, m, _, _, hl, hlen, hel⟩ := DataW.trod_array ht hf
  intro i hi
  have f := hel i hi
  rw [hc, Nat.mul_one] at f
  rw [List.getElem?_eq_getElem (by omega : i < xs.length)] at f
  obtain ⟨x, q, -, wf⟩ := DataW.trod_int he f
  refine ⟨x, ?_, wf⟩
  have h1 : ((cs.drop i).take 1)[0]? = some (.int k x) := by rw [q]; rfl
  simpa using h1
set_option maxRecDepth 100000 in
theorem open_sheet {H : Type} {enc : TypeId × Value → H} {W : World} {r : Reach} {b0 : Nat} {spare : Nat → Bool} {held : Bool} {v : Value} {d : DataW H} {ps : List MemPlace}
    (hv : Value.okWide Tryz.prog W r b0 72 v) (h : DataW.Trod enc Tryz.prog W 0 spare held 72 v d ps) :
    ∃ x : Sh, v = .agg #[.int .u8 x.x0, .int .u8 x.x1, .int .u8 x.x2, .int .u8 x.x3, .int .u8 x.xh, .int .u8 x.y0, .int .u8 x.y1, .int .u8 x.y2, .int .u8 x.y3, .bool x.xo, .int .u8 x.ca, .int .u8 x.cb, .int .u8 x.v0, .int .u8 x.v1, .int .u8 x.v2, .int .u8 x.v3, .int .u8 x.v4] ∧ ShIn x := by
  obtain ⟨cs, rfl, hsz⟩ := okWide_struct Tryz.underlying72 hv
  obtain ⟨fuel, hf⟩ := h
  obtain ⟨xs, n, _, _, hl, hlen, hfld⟩ := DataW.trod_struct Tryz.underlying72 hf
  have e17 : Tryz.prog.cellsOf 72 = 17 := by kernel_rfl
  rw [e17] at hsz
  have a4 : Tryz.prog.cellsOf 68 = 4 := by kernel_rfl
  have a2 : Tryz.prog.cellsOf 69 = 2 := by kernel_rfl
  have a5 : Tryz.prog.cellsOf 70 = 5 := by kernel_rfl
  have u1 : Tryz.prog.cellsOf 5 = 1 := by kernel_rfl
  have o1 : Tryz.prog.cellsOf 4 = 1 := by kernel_rfl
  obtain ⟨l⟩ := cs
  match l, hsz with
  | [c0, c1, c2, c3, c4, c5, c6, c7, c8, c9, c10, c11, c12, c13, c14, c15, c16], _ =>
    match xs, hlen with
    | [y0, y1, y2, y3, y4, y5], _ =>
      have f0 : DataW.trod enc Tryz.prog W 0 spare held n 68 ((List.drop 0 [c0, c1, c2, c3, c4, c5, c6, c7, c8, c9, c10, c11, c12, c13, c14, c15, c16]).take (Tryz.prog.cellsOf 68)) = some y0 := hfld 0 _ rfl
      have f1 : DataW.trod enc Tryz.prog W 0 spare held n 5 ((List.drop 4 [c0, c1, c2, c3, c4, c5, c6, c7, c8, c9, c10, c11, c12, c13, c14, c15, c16]).take (Tryz.prog.cellsOf 5)) = some y1 := hfld 1 _ rfl
      have f2 : DataW.trod enc Tryz.prog W 0 spare held n 68 ((List.drop 5 [c0, c1, c2, c3, c4, c5, c6, c7, c8, c9, c10, c11, c12, c13, c14, c15, c16]).take (Tryz.prog.cellsOf 68)) = some y2 := hfld 2 _ rfl
      have f3 : DataW.trod enc Tryz.prog W 0 spare held n 4 ((List.drop 9 [c0, c1, c2, c3, c4, c5, c6, c7, c8, c9, c10, c11, c12, c13, c14, c15, c16]).take (Tryz.prog.cellsOf 4)) = some y3 := hfld 3 _ rfl
      have f4 : DataW.trod enc Tryz.prog W 0 spare held n 69 ((List.drop 10 [c0, c1, c2, c3, c4, c5, c6, c7, c8, c9, c10, c11, c12, c13, c14, c15, c16]).take (Tryz.prog.cellsOf 69)) = some y4 := hfld 4 _ rfl
      have f5 : DataW.trod enc Tryz.prog W 0 spare held n 70 ((List.drop 12 [c0, c1, c2, c3, c4, c5, c6, c7, c8, c9, c10, c11, c12, c13, c14, c15, c16]).take (Tryz.prog.cellsOf 70)) = some y5 := hfld 5 _ rfl
      rw [a4] at f0; change DataW.trod enc Tryz.prog W 0 spare held n 68 [c0, c1, c2, c3] = some y0 at f0
      rw [u1] at f1; change DataW.trod enc Tryz.prog W 0 spare held n 5 [c4] = some y1 at f1
      rw [a4] at f2; change DataW.trod enc Tryz.prog W 0 spare held n 68 [c5, c6, c7, c8] = some y2 at f2
      rw [o1] at f3; change DataW.trod enc Tryz.prog W 0 spare held n 4 [c9] = some y3 at f3
      rw [a2] at f4; change DataW.trod enc Tryz.prog W 0 spare held n 69 [c10, c11] = some y4 at f4
      rw [a5] at f5; change DataW.trod enc Tryz.prog W 0 spare held n 70 [c12, c13, c14, c15, c16] = some y5 at f5
      have A0 := open_arr Tryz.underlying5 u1 Tryz.underlying68 f0 rfl
      have A2 := open_arr Tryz.underlying5 u1 Tryz.underlying68 f2 rfl
      have A4 := open_arr Tryz.underlying5 u1 Tryz.underlying69 f4 rfl
      have A5 := open_arr Tryz.underlying5 u1 Tryz.underlying70 f5 rfl
      obtain ⟨x0, e0, g0⟩ := A0 0 (by decide)
      obtain ⟨x1, e1, g1⟩ := A0 1 (by decide)
      obtain ⟨x2, e2, g2⟩ := A0 2 (by decide)
      obtain ⟨x3, e3, g3⟩ := A0 3 (by decide)
      obtain ⟨xh, e4, -, g4⟩ := DataW.trod_int Tryz.underlying5 f1
      obtain ⟨z0, e5, g5⟩ := A2 0 (by decide)
      obtain ⟨z1, e6, g6⟩ := A2 1 (by decide)
      obtain ⟨z2, e7, g7⟩ := A2 2 (by decide)
      obtain ⟨z3, e8, g8⟩ := A2 3 (by decide)
      obtain ⟨xo, e9, -⟩ := DataW.trod_bool Tryz.underlying4 f3
      obtain ⟨ca, e10, g10⟩ := A4 0 (by decide)
      obtain ⟨cb, e11, g11⟩ := A4 1 (by decide)
      obtain ⟨v0, e12, g12⟩ := A5 0 (by decide)
      obtain ⟨v1, e13, g13⟩ := A5 1 (by decide)
      obtain ⟨v2, e14, g14⟩ := A5 2 (by decide)
      obtain ⟨v3, e15, g15⟩ := A5 3 (by decide)
      obtain ⟨v4, e16, g16⟩ := A5 4 (by decide)
      obtain rfl := Option.some.inj e0
      obtain rfl := Option.some.inj e1
      obtain rfl := Option.some.inj e2
      obtain rfl := Option.some.inj e3
      obtain rfl := (List.cons.inj e4).1
      obtain rfl := Option.some.inj e5
      obtain rfl := Option.some.inj e6
      obtain rfl := Option.some.inj e7
      obtain rfl := Option.some.inj e8
      obtain rfl := (List.cons.inj e9).1
      obtain rfl := Option.some.inj e10
      obtain rfl := Option.some.inj e11
      obtain rfl := Option.some.inj e12
      obtain rfl := Option.some.inj e13
      obtain rfl := Option.some.inj e14
      obtain rfl := Option.some.inj e15
      obtain rfl := Option.some.inj e16
      exact ⟨⟨x0, x1, x2, x3, xh, z0, z1, z2, z3, xo, ca, cb, v0, v1, v2, v3, v4⟩, rfl, bounds_u8 g0, bounds_u8 g1, bounds_u8 g2, bounds_u8 g3, bounds_u8 g4, bounds_u8 g5, bounds_u8 g6, bounds_u8 g7, bounds_u8 g8, bounds_u8 g10, bounds_u8 g11, bounds_u8 g12, bounds_u8 g13, bounds_u8 g14, bounds_u8 g15, bounds_u8 g16⟩
end Go.Proofs.YthnediamopehfaaGreat
