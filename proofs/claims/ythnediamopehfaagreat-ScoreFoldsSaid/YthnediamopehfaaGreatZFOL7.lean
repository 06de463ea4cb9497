/- Part of the proof: what the claim leans on. -/
import Derived.Test.YthnediamopehfaaGreatZFOS6
set_option linter.unusedSimpArgs false
set_option linter.unusedVariables false
namespace Go.Proofs.YthnediamopehfaaGreat
open Go.RowKit
set_option maxRecDepth 100000 in
set_option maxHeartbeats 40000000 in
theorem folds_main_c17 (x : Sh) (gx : ShIn x) (wh bn : Int) (hwh : 0 ≤ wh ∧ wh ≤ 255) (hbn : 0 ≤ bn ∧ bn ≤ 255) (b d : Bl) (vi : Wi) (lo hi q1 q2 : Int) (L L9 LW : List Sp) (i : Nat) (w : World) (hbx : shBl x = d) (ht : twinB d = b) (hcx : shCal x = (lo, hi)) (hto : b.isOpen = vi.isOpen) (hv : wishOf x b lo hi = vi) (hkd : checkErr d = 0) (hck : checkErr b = 0) (hwv : wishErr vi = 0) (j1 : 1 ≤ lo) (j2 : lo ≤ hi) (j3 : hi ≤ 10000) (hL : closeL b vi (lo, hi) = L) (hL0 : ((L.length : Int) != 0) = false) (hF : calErr b vi = 0) (hq : calOf b vi = (q1, q2)) (hq1 : q1 ≤ lo) (hq2 : hi ≤ q2) (hq3 : 1 ≤ q1) (hq4 : q2 ≤ 10000) (hL9 : innerL b (lo, hi) 0 = L9) (hn9 : L9.length = 9) (hmic : ∀ j c, j < 9 → lo ≤ c → c ≤ hi → (nthP L9 j).1 ≤ mic b c j ∧ mic b c j ≤ (nthP L9 j).2) (hmh : ∀ j, j < 9 → mic b hi j = (nthP L9 j).1) (hml : ∀ j, j < 9 → mic b lo j = (nthP L9 j).2) (n1 : b.panels.length ≤ 1000) (n2 : b.top.length ≤ 1000) (n3 : b.bottom.length ≤ 1000) (hix : 2 + (wh % 2) = (i : Int)) (hil : i < b.panels.length) (hpi : 1 ≤ nthI b.panels i ∧ nthI b.panels i ≤ 2000) (hckw : checkErr (longer b i ((nthI b.panels i) + (bn % 9))) = 0) (hLW : closeL (longer b i ((nthI b.panels i) + (bn % 9))) vi (lo, hi) = LW) (hW0 : 1000 * ((nthI b.panels i) + (bn % 9)) - lo ≤ 1000 * (if i = 3 then vi.width.2 else vi.length.2) → LW = []) (hW1 : ¬ 1000 * ((nthI b.panels i) + (bn % 9)) - lo ≤ 1000 * (if i = 3 then vi.width.2 else vi.length.2) → LW = [((i : Int), lo)]) (hvl : -10000 ≤ vi.length.2 ∧ vi.length.2 ≤ 10000) (hvw : -10000 ≤ vi.width.2 ∧ vi.width.2 ≤ 10000) (g_ : Nat → Value) (W_ : World) (bk1 : Nat) (bk2 : Nat) (bk3 : Nat) (a88' : Option Addr) (c89' : Nat) (g10' : Nat) (c13' : Nat) (g11' : Nat) (c14' : Nat) (g12' : Nat) (c15' : Nat) (a52' : Option Addr) (c53' : Nat) (bk0 : Nat) (bk4 : Nat)  (k_1 : g_ 1 = .int .u8 wh) (k_2 : g_ 2 = .int .u8 bn) (k_6 : g_ 6 = .bool false) (k_7 : g_ 7 = .pointer (some ⟨bk1, 0, none⟩)) (k_8 : g_ 8 = .pointer (some ⟨bk2, 0, none⟩)) (k_9 : g_ 9 = .pointer (some ⟨bk3, 0, none⟩)) (fB_ : Below w.heap.size w W_) (bl_0 : W_.heap[bk0]? = some (.cells #[.int .u8 x.x0, .int .u8 x.x1, .int .u8 x.x2, .int .u8 x.x3, .int .u8 x.xh, .int .u8 x.y0, .int .u8 x.y1, .int .u8 x.y2, .int .u8 x.y3, .bool x.xo, .int .u8 x.ca, .int .u8 x.cb, .int .u8 x.v0, .int .u8 x.v1, .int .u8 x.v2, .int .u8 x.v3, .int .u8 x.v4] 72 (0, 0))) (bl_1 : W_.heap[bk1]? = some (.cells #[.int .i64 b.tab, .slice (some ⟨g10', 0, none⟩) (b.panels.length) (c13'), .int .i64 b.height, .slice (some ⟨g11', 0, none⟩) (b.top.length) (c14'), .slice (some ⟨g12', 0, none⟩) (b.bottom.length) (c15'), .int .i64 b.slot, .bool b.isOpen] 24 (0, 0))) (bl_2 : W_.heap[bk2]? = some (.cells #[.int .i64 lo, .int .i64 hi] 26 (0, 0))) (bl_3 : W_.heap[bk3]? = some (.cells #[.int .i64 vi.length.1, .int .i64 vi.length.2, .int .i64 vi.width.1, .int .i64 vi.width.2, .int .i64 vi.height.1, .int .i64 vi.height.2, .int .i64 vi.outer.1, .int .i64 vi.outer.2, .int .i64 vi.inner.1, .int .i64 vi.inner.2, .bool vi.isOpen] 43 (0, 0))) (bl_4 : W_.heap[bk4]? = some (.cells #[.int .i64 q1, .int .i64 q2] 26 (0, 0))) (ft_0 : OwnI 0 b.panels g10' c13' W_) (ft_1 : OwnI 0 b.top g11' c14' W_) (ft_2 : OwnI 0 b.bottom g12' c15' W_) (ft_3 : Pp W_ a52' L.length c53' L) (ft_4 : Pp W_ a88' L9.length c89' L9) (lw_bk0 : w.heap.size ≤ bk0) (lw_bk1 : w.heap.size ≤ bk1) (lw_bk2 : w.heap.size ≤ bk2) (lw_bk3 : w.heap.size ≤ bk3) (lw_bk4 : w.heap.size ≤ bk4) (ne_0_1 : bk0 ≠ bk1) (ne_0_2 : bk0 ≠ bk2) (ne_1_2 : bk1 ≠ bk2) (ne_0_3 : bk0 ≠ bk3) (ne_1_3 : bk1 ≠ bk3) (ne_2_3 : bk2 ≠ bk3) (ne_0_4 : bk0 ≠ bk4) (ne_1_4 : bk1 ≠ bk4) (ne_2_4 : bk2 ≠ bk4) (ne_3_4 : bk3 ≠ bk4) :
    (tailC 8 (bodyC Tryz.f7)).wp Tryz.prog (bodyPost Tryz.prog Tryz.f7 (fun e w' => e = .returned (.bool true) ∧ Below w.heap.size w w')) (fr 245 g_) W_ := by
  have hq1n := Int.not_lt.2 hq1
  have hq2n := Int.not_lt.2 hq2
  have hq3n := Int.not_lt.2 hq3
  have hq4n := Int.not_lt.2 hq4
  have hL9z : ((L9.length : Int) != 9) = false := by rw [hn9]; rfl
  have lii := Nat.not_le.2 hil
  have lt_bk0 := lt_of_blk bl_0
  have lt_bk1 := lt_of_blk bl_1
  have lt_bk2 := lt_of_blk bl_2
  have lt_bk3 := lt_of_blk bl_3
  have lt_bk4 := lt_of_blk bl_4
  have lim161' := Pp.lim ft_3
  have lim162' := Pp.lim ft_4
  refine wp_seq_k fun K24 hK24 => ?_
  as_aux_lemma =>
  refine region_do 8 [(172, 0), (173, 1), (174, 2), (175, 3), (176, 4), (177, 5), (20, 6), (19, 7)] [[], [0], [0, 1], [0, 1, 2], [], [4], [], [0, 1, 2, 3, 4, 5, 6], [0, 1, 2, 3, 4, 5, 6, 7]] (rel [is (.int .u8 wh),
      is (.int .i64 wh),
      is (.int .i64 (wh % 2)),
      is (.int .i64 (2 + (wh % 2))),
      is (.agg #[.int .i64 b.tab, .slice (some ⟨g10', 0, none⟩) (b.panels.length) (c13'), .int .i64 b.height, .slice (some ⟨g11', 0, none⟩) (b.top.length) (c14'), .slice (some ⟨g12', 0, none⟩) (b.bottom.length) (c15'), .int .i64 b.slot, .bool b.isOpen]),
      fun v s W => OwBlk (s 5) (b) v W,
      bx 6 #[.int .i64 0, .slice (none) (0) (0), .int .i64 0, .slice (none) (0) (0), .slice (none) (0) (0), .int .i64 0, .bool false] 24,
      is (.int .i64 (2 + (wh % 2)))]) (by kernel_rfl) (by kernel_rfl) (by kernel_rfl) (by kernel_rfl)
    ⟨is_k, is_k, is_k, is_k, is_k, ⟨fun v k W W' hb h => h.below hb, fun v s s' W e h => by have h' : OwBlk (s 5) (b) v W := h; show OwBlk (s' 5) (b) v W; rw [← e 5 (by simp)]; exact h'⟩, bx_k, is_k, trivial⟩
    ⟨fun f s W hW hd hs hz ac hac => opv rfl rfl (by simp [go_sem, hac.e 1 k_1]) rfl,
    fun f s W hW hd hs hz ac hac => by have cv_ := IntWalk.i64_in wh (by omega); exact opv rfl rfl (by simp [go_sem, hac.e 172 (hd 0 rfl), cv_]) rfl,
    fun f s W hW hd hs hz ac hac => by have qu_ : (wh).tmod 2 = wh % 2 := Int.tmod_eq_emod_of_nonneg (by omega); have qw_ := IntWalk.i64_in (wh % 2) (by omega); exact opv rfl rfl (by simp [go_sem, hac.e 173 (hd 1 rfl), qu_, qw_]) rfl,
    fun f s W hW hd hs hz ac hac => opv rfl rfl (by simp [go_sem, hac.e 174 (hd 2 rfl), IntWalk.i64_in (2 + (wh % 2)) (by omega)]) rfl,
    fun f s W hW hd hs hz ac hac => opl rfl rfl rfl (hac.v 7 k_7) (blk_below bl_1 hW) Tryz.underlying24 rfl (by kernel_rfl) rfl,
    fun f s W hW hd hs hz ac hac => opDo_call (args := #[.agg #[.int .i64 b.tab, .slice (some ⟨g10', 0, none⟩) (b.panels.length) (c13'), .int .i64 b.height, .slice (some ⟨g11', 0, none⟩) (b.top.length) (c14'), .slice (some ⟨g12', 0, none⟩) (b.bottom.length) (c15'), .int .i64 b.slot, .bool b.isOpen]]) rfl rfl (by simp [go_sem, hac.e 176 (hd 4 rfl)]) (own_ow _ _ _ _ _ _ b W ((ft_0.below hW)).ii ((ft_1.below hW)).ii ((ft_2.below hW)).ii hck) (fun e W' h => by obtain ⟨v, e1, h1, h2⟩ := h; exact ⟨v, e1, h2, (show OwBlk (upd s 5 W.heap.size 5) (b) v W' from by rw [upd_at]; exact h1)⟩),
    fun f s W hW hd hs hz ac hac => opb rfl rfl (by simp [go_sem]),
    fun f s W hW hd hs hz ac hac => opv rfl rfl (by simp [go_sem, hac.e 175 (hd 3 rfl)]) rfl, trivial⟩ ?_
  intro f22 s22 W22 hB22
  have fB22 : Below w.heap.size w W22 := below_trans fB_ hB22.below
  have z22 : W_.heap.size ≤ W22.heap.size := hB22.below.size
  have b22_0 := blk_below bl_0 hB22.below
  have b22_1 := blk_below bl_1 hB22.below
  have b22_2 := blk_below bl_2 hB22.below
  have b22_3 := blk_below bl_3 hB22.below
  have b22_4 := blk_below bl_4 hB22.below
  have q163' := (ft_0.below hB22.below)
  have q164' := (ft_1.below hB22.below)
  have q165' := (ft_2.below hB22.below)
  have q166' := (ft_3.below hB22.below (Nat.le_refl _))
  have q167' := (ft_4.below hB22.below (Nat.le_refl _))
  obtain ⟨g168', c171', g169', c172', g170', c173', r22_5, q174', q175', q176', q177', q178', q179'⟩ := hB22.is 5
  have la22_5 := hB22.from' 5 (by decide)
  have lo22_5_o0 := q174'.lim
  have q180' := q174'.low (B' := w.heap.size) (Nat.le_trans fB_.size (la22_5))
  have lo22_5_o1 := q175'.lim
  have q181' := q175'.low (B' := w.heap.size) (Nat.le_trans fB_.size (la22_5))
  have lo22_5_o2 := q176'.lim
  have q182' := q176'.low (B' := w.heap.size) (Nat.le_trans fB_.size (la22_5))
  obtain ⟨r22_6, br22_6⟩ := hB22.is 6
  have lr22_6 : W_.heap.size ≤ s22 6 ∧ s22 6 < W22.heap.size := ⟨hB22.from' 6 (by decide), lt_of_blk br22_6⟩
  have oo22_5_o0_6 := hB22.off 5 6 (by decide) (by decide) (by decide) lo22_5_o0.1 (fun W h => (OwBlk.lt h r22_5).1) (fun _ _ _ h => lt_of_blk h.2)
  have oo22_5_o1_6 := hB22.off 5 6 (by decide) (by decide) (by decide) lo22_5_o1.1 (fun W h => (OwBlk.lt h r22_5).2.1) (fun _ _ _ h => lt_of_blk h.2)
  have oo22_5_o2_6 := hB22.off 5 6 (by decide) (by decide) (by decide) lo22_5_o2.1 (fun W h => (OwBlk.lt h r22_5).2.2) (fun _ _ _ h => lt_of_blk h.2)
  generalize hg22 : ov [(172, 0), (173, 1), (174, 2), (175, 3), (176, 4), (177, 5), (20, 6), (19, 7)] f22 g_ = g22
  have k22_2 := kt hg22 2 k_2
  have k22_6 := kt hg22 6 k_6
  have k22_8 := kt hg22 8 k_8
  have k22_9 := kt hg22 9 k_9
  have k22_177 := kt hg22 177 r22_5
  have k22_20 := kt hg22 20 r22_6
  have k22_19 := kt hg22 19 (hB22.is 7)
  obtain ⟨W23, hW23⟩ : ∃ W', W' = W22.setRow (s22 6) #[.int .i64 b.tab, .slice (some ⟨g168', 0, none⟩) (b.panels.length) (c171'), .int .i64 b.height, .slice (some ⟨g169', 0, none⟩) (b.top.length) (c172'), .slice (some ⟨g170', 0, none⟩) (b.bottom.length) (c173'), .int .i64 b.slot, .bool b.isOpen] := ⟨_, rfl⟩
  refine tail_skip (o := _) rfl ⟨rfl, rfl⟩ (run_seg hW23 (fr_ev k22_20) (fr_ev k22_177) br22_6 rfl rfl rfl rfl) ?_
  obtain ⟨fB23, nb23, ot23, z23⟩ := seg_facts hW23 fB22 br22_6 (by omega)
  clear hW23
  have b23_0 := ot23 _ _ (by omega) b22_0
  have b23_1 := ot23 _ _ (by omega) b22_1
  have b23_2 := ot23 _ _ (by omega) b22_2
  have b23_3 := ot23 _ _ (by omega) b22_3
  have b23_4 := ot23 _ _ (by omega) b22_4
  have q183' := q163'.other ot23 (own_ne q163' br22_6) z23
  have q184' := q164'.other ot23 (own_ne q164' br22_6) z23
  have q185' := q165'.other ot23 (own_ne q165' br22_6) z23
  have q186' := (q166'.otherA ot23 (fun g o e hx => by have := lim161' g o e hx; omega) z23)
  have q187' := (q167'.otherA ot23 (fun g o e hx => by have := lim162' g o e hx; omega) z23)
  have q188' := q180'.other ot23 (by omega) z23
  have q189' := q181'.other ot23 (by omega) z23
  have q190' := q182'.other ot23 (by omega) z23
  refine wpOps_end ?_
  refine hK24 _ _ ?_
  refine wp_seq_k fun K25 hK25 => ?_
  as_aux_lemma =>
  refine region_do 10 [(178, 0), (179, 1), (180, 2), (181, 3), (182, 4), (183, 5), (184, 6), (185, 7), (186, 8), (187, 9)] [[], [0], [], [0, 1, 2], [0, 1, 2, 3], [], [5], [5, 6], [0, 1, 2, 3, 4, 5, 6, 7], [0, 1, 2, 3, 4, 5, 6, 7, 8], [0, 1, 2, 3, 4, 5, 6, 7, 8, 9]] (rel [is (.pointer (some ⟨(s22 6), 1, none⟩)),
      is (.slice (some ⟨g168', 0, none⟩) (b.panels.length) (c171')),
      is (.int .i64 (2 + (wh % 2))),
      is (.pointer (some ⟨g168', i, none⟩)),
      is (.int .i64 (nthI b.panels i)),
      is (.int .u8 bn),
      is (.int .i64 bn),
      is (.int .i64 (bn % 9)),
      is (.int .i64 ((nthI b.panels i) + (bn % 9))),
      is (.pointer (some ⟨g168', i, none⟩))]) (by kernel_rfl) (by kernel_rfl) (by kernel_rfl) (by kernel_rfl)
    ⟨is_k, is_k, is_k, is_k, is_k, is_k, is_k, is_k, is_k, is_k, trivial⟩
    ⟨fun f s W hW hd hs hz ac hac => opv rfl rfl (by simp [go_sem, hac.e 20 k22_20]) rfl,
    fun f s W hW hd hs hz ac hac => opv rfl rfl (by simp [go_sem, hac.e 178 (hd 0 rfl), Joins.cell_of_block (blk_below nb23 hW) 1]) rfl,
    fun f s W hW hd hs hz ac hac => opv rfl rfl (by simp [go_sem, hac.e 19 k22_19]) rfl,
    fun f s W hW hd hs hz ac hac => opv rfl rfl (by simp [go_sem, hac.e 179 (hd 1 rfl), hac.e 180 (hd 2 rfl), hix, lii]) rfl,
    fun f s W hW hd hs hz ac hac => by have u4_ : W.cell? ⟨g168', i, none⟩ = some (.int .i64 (nthI b.panels i)) := (OwnI.cell ((q188'.below hW)) (i := i) (by omega)); exact opv rfl rfl (by simp [go_sem, hac.e 181 (hd 3 rfl), u4_]) rfl,
    fun f s W hW hd hs hz ac hac => opv rfl rfl (by simp [go_sem, hac.e 2 k22_2]) rfl,
    fun f s W hW hd hs hz ac hac => by have cv_ := IntWalk.i64_in bn (by omega); exact opv rfl rfl (by simp [go_sem, hac.e 183 (hd 5 rfl), cv_]) rfl,
    fun f s W hW hd hs hz ac hac => by have qu_ : (bn).tmod 9 = bn % 9 := Int.tmod_eq_emod_of_nonneg (by omega); have qw_ := IntWalk.i64_in (bn % 9) (by omega); exact opv rfl rfl (by simp [go_sem, hac.e 184 (hd 6 rfl), qu_, qw_]) rfl,
    fun f s W hW hd hs hz ac hac => opv rfl rfl (by simp [go_sem, hac.e 182 (hd 4 rfl), hac.e 185 (hd 7 rfl), IntWalk.i64_in ((nthI b.panels i) + (bn % 9)) (by omega)]) rfl,
    fun f s W hW hd hs hz ac hac => opv rfl rfl (by simp [go_sem, hac.e 179 (hd 1 rfl), hac.e 180 (hd 2 rfl), hix, lii]) rfl, trivial⟩ ?_
  intro f24 s24 W24 hB24
  have fB24 : Below w.heap.size w W24 := below_trans fB23 hB24.below
  have z24 : W23.heap.size ≤ W24.heap.size := hB24.below.size
  have b24_0 := blk_below b23_0 hB24.below
  have b24_1 := blk_below b23_1 hB24.below
  have b24_2 := blk_below b23_2 hB24.below
  have b24_3 := blk_below b23_3 hB24.below
  have b24_4 := blk_below b23_4 hB24.below
  have b24_5 := blk_below nb23 hB24.below
  have q191' := (q183'.below hB24.below)
  have q192' := (q184'.below hB24.below)
  have q193' := (q185'.below hB24.below)
  have q194' := (q186'.below hB24.below (Nat.le_refl _))
  have q195' := (q187'.below hB24.below (Nat.le_refl _))
  have q196' := (q188'.below hB24.below)
  have q197' := (q189'.below hB24.below)
  have q198' := (q190'.below hB24.below)
  generalize hg24 : ov [(178, 0), (179, 1), (180, 2), (181, 3), (182, 4), (183, 5), (184, 6), (185, 7), (186, 8), (187, 9)] f24 g22 = g24
  have k24_6 := kt hg24 6 k22_6
  have k24_8 := kt hg24 8 k22_8
  have k24_9 := kt hg24 9 k22_9
  have k24_20 := kt hg24 20 k22_20
  have k24_19 := kt hg24 19 k22_19
  have k24_186 := kt hg24 186 (hB24.is 8)
  have k24_187 := kt hg24 187 (hB24.is 9)
  obtain ⟨W25, st25, ow25, ot25, z25, fB25⟩ := storeI_tail (c := c171') (i := i) (x := (nthI b.panels i) + (bn % 9)) ((b.panels).set i ((nthI b.panels i) + (bn % 9))) (by omega) rfl fB24 q196'
  refine tail_skip (o := _) rfl ⟨rfl, rfl⟩ (st25 (fr_ev k24_187) (fr_ev k24_186)) ?_
  have b25_0 := ot25 _ _ (by omega) b24_0
  have b25_1 := ot25 _ _ (by omega) b24_1
  have b25_2 := ot25 _ _ (by omega) b24_2
  have b25_3 := ot25 _ _ (by omega) b24_3
  have b25_4 := ot25 _ _ (by omega) b24_4
  have b25_5 := ot25 _ _ (by omega) b24_5
  have q202' := (q194'.otherA ot25 (fun g o e hx => by have := lim161' g o e hx; omega) z25)
  have q203' := (q195'.otherA ot25 (fun g o e hx => by have := lim162' g o e hx; omega) z25)
  have q204' := q197'.other ot25 (by omega) z25
  have q205' := q198'.other ot25 (by omega) z25
  refine wpOps_end ?_
  refine hK25 _ _ ?_
  have fA26 : Below W25.heap.size W25 W25 := Below.refl _ _
  refine wp_seq_k fun K26 hK26 => ?_
  as_aux_lemma =>
  refine region_do 9 [(189, 0), (190, 1), (191, 2), (192, 3), (188, 4), (193, 5), (194, 6), (21, 7), (22, 8)] [[], [], [], [0, 1, 2], [0, 1, 2, 3], [0, 1, 2, 3, 4], [0, 1, 2, 3, 4], [0, 1, 2, 3, 4, 5], [0, 1, 2, 3, 4, 5, 6, 7]] (rel [is (.agg #[.int .i64 b.tab, .slice (some ⟨g168', 0, none⟩) (b.panels.length) (c171'), .int .i64 b.height, .slice (some ⟨g169', 0, none⟩) (b.top.length) (c172'), .slice (some ⟨g170', 0, none⟩) (b.bottom.length) (c173'), .int .i64 b.slot, .bool b.isOpen]),
      is (.agg #[.int .i64 vi.length.1, .int .i64 vi.length.2, .int .i64 vi.width.1, .int .i64 vi.width.2, .int .i64 vi.height.1, .int .i64 vi.height.2, .int .i64 vi.outer.1, .int .i64 vi.outer.2, .int .i64 vi.inner.1, .int .i64 vi.inner.2, .bool vi.isOpen]),
      is (.agg #[.int .i64 lo, .int .i64 hi]),
      ab fun v W => ∃ x0, v = .tuple #[x0, .int .i64 0] ∧ IsPp LW x0 W,
      ab fun v W => ∃ x0, v = .tuple #[x0, .int .i64 0] ∧ IsPp LW x0 W,
      ab fun v W => IsPp LW v W,
      is (.int .i64 0),
      ab fun v W => IsPp LW v W,
      is (.int .i64 0)]) (by kernel_rfl) (by kernel_rfl) (by kernel_rfl) (by kernel_rfl)
    ⟨is_k, is_k, is_k, ab_k fun v W W' hb ⟨x0, e, h0⟩ => ⟨x0, e, h0.below hb⟩, ab_k fun v W W' hb ⟨x0, e, h0⟩ => ⟨x0, e, h0.below hb⟩, ab_k fun v W W' hb h => h.below hb, is_k, ab_k fun v W W' hb h => h.below hb, is_k, trivial⟩
    ⟨fun f s W hW hd hs hz ac hac => by have aW := below_trans fA26 hW; exact opl rfl rfl rfl (hac.v 20 k24_20) (blk_below b25_5 aW) Tryz.underlying24 rfl (by kernel_rfl) rfl,
    fun f s W hW hd hs hz ac hac => by have aW := below_trans fA26 hW; exact opl rfl rfl rfl (hac.v 9 k24_9) (blk_below b25_3 aW) Tryz.underlying43 rfl (by kernel_rfl) rfl,
    fun f s W hW hd hs hz ac hac => by have aW := below_trans fA26 hW; exact opv rfl rfl (by simp [go_sem, hac.e 8 k24_8, Joins.cell_of_block (blk_below b25_2 aW) 0, Joins.cell_of_block (blk_below b25_2 aW) 1]) rfl,
    fun f s W hW hd hs hz ac hac => by have aW := below_trans fA26 hW; exact opDo_call (args := #[.agg #[.int .i64 b.tab, .slice (some ⟨g168', 0, none⟩) (b.panels.length) (c171'), .int .i64 b.height, .slice (some ⟨g169', 0, none⟩) (b.top.length) (c172'), .slice (some ⟨g170', 0, none⟩) (b.bottom.length) (c173'), .int .i64 b.slot, .bool b.isOpen], .agg #[.int .i64 vi.length.1, .int .i64 vi.length.2, .int .i64 vi.width.1, .int .i64 vi.width.2, .int .i64 vi.height.1, .int .i64 vi.height.2, .int .i64 vi.outer.1, .int .i64 vi.outer.2, .int .i64 vi.inner.1, .int .i64 vi.inner.2, .bool vi.isOpen], .agg #[.int .i64 lo, .int .i64 hi]]) rfl rfl (by simp [go_sem, hac.e 189 (hd 0 rfl), hac.e 190 (hd 1 rfl), hac.e 191 (hd 2 rfl)]) (close_ok (b := longer b i ((nthI b.panels i) + (bn % 9))) vi lo hi W ⟨_, _, _, _, _, _, _, _, _, rfl, (OwnI.iin (n := b.panels.length) ((ow25.below aW)) (by exact List.length_set ..)), ((q204'.below aW)).ii, ((q205'.below aW)).ii⟩ hckw hwv j1 j2 j3) ((fun e W' h => by obtain ⟨x, e1, h1, h2⟩ := h; rw [hLW] at h1; exact ⟨_, e1, h2, _, rfl, h1⟩)),
    fun f s W hW hd hs hz ac hac => opv (v := (f 3)) rfl rfl (by simp [go_sem, (hac.at' 192 rfl : ac.tmps[192]?.getD undef = f 3)] <;> rfl) (hd 3 rfl),
    fun f s W hW hd hs hz ac hac => by obtain ⟨x4_0, d4, p4_0⟩ := (hd 4 rfl); exact opv (v := x4_0) rfl rfl (by simp [go_sem, hac.e 188 d4]) p4_0,
    fun f s W hW hd hs hz ac hac => by obtain ⟨x4_0, d4, p4_0⟩ := (hd 4 rfl); exact opv rfl rfl (by simp [go_sem, hac.e 188 d4]) rfl,
    fun f s W hW hd hs hz ac hac => opv (v := (f 5)) rfl rfl (by simp [go_sem, (hac.at' 193 rfl : ac.tmps[193]?.getD undef = f 5)] <;> rfl) (hd 5 rfl),
    fun f s W hW hd hs hz ac hac => opv rfl rfl (by simp [go_sem, hac.e 194 (hd 6 rfl)]) rfl, trivial⟩ ?_
  intro f27 s27 W27 hB27
  have fB27 : Below w.heap.size w W27 := below_trans fB25 hB27.below
  have z27 : W25.heap.size ≤ W27.heap.size := hB27.below.size
  have fA27 := below_trans fA26 hB27.below
  obtain ⟨a209', c210', r27_7, q211'⟩ := hB27.is 7
  have lim212' := Pp.lim q211'
  refine hK26 _ _ ?_
  generalize hg27 : ov [(189, 0), (190, 1), (191, 2), (192, 3), (188, 4), (193, 5), (194, 6), (21, 7), (22, 8)] f27 g24 = g27
  have k27_6 := kt hg27 6 k24_6
  have k27_8 := kt hg27 8 k24_8
  have k27_9 := kt hg27 9 k24_9
  have k27_20 := kt hg27 20 k24_20
  have k27_19 := kt hg27 19 k24_19
  have k27_21 := kt hg27 21 r27_7
  have k27_22 := kt hg27 22 (hB27.is 8)
  refine wp_seq_k fun K27 hK27 => ?_
  as_aux_lemma =>
  refine region_do 4 [(195, 0), (196, 1), (197, 2), (23, 3)] [[], [0], [0, 1], [0, 1, 2]] (rel [is (.pointer (some ⟨bk3, 0, none⟩)),
      is (.pointer (some ⟨bk3, 1, none⟩)),
      is (.int .i64 vi.length.2),
      is (.int .i64 vi.length.2)]) (by kernel_rfl) (by kernel_rfl) (by kernel_rfl) (by kernel_rfl)
    ⟨is_k, is_k, is_k, is_k, trivial⟩
    ⟨fun f s W hW hd hs hz ac hac => opv rfl rfl (by simp [go_sem, hac.e 9 k27_9]) rfl,
    fun f s W hW hd hs hz ac hac => opv rfl rfl (by simp [go_sem, hac.e 195 (hd 0 rfl)]) rfl,
    fun f s W hW hd hs hz ac hac => by have aW := below_trans fA27 hW; exact opv rfl rfl (by simp [go_sem, hac.e 196 (hd 1 rfl), Joins.cell_of_block (blk_below b25_3 aW) 1]) rfl,
    fun f s W hW hd hs hz ac hac => opv rfl rfl (by simp [go_sem, hac.e 197 (hd 2 rfl)]) rfl, trivial⟩ ?_
  intro f28 s28 W28 hB28
  have fB28 : Below w.heap.size w W28 := below_trans fB27 hB28.below
  have z28 : W27.heap.size ≤ W28.heap.size := hB28.below.size
  have fA28 := below_trans fA27 hB28.below
  have q213' := (q211'.below hB28.below (Nat.le_refl _))
  refine hK27 _ _ ?_
  generalize hg28 : ov [(195, 0), (196, 1), (197, 2), (23, 3)] f28 g27 = g28
  have k28_6 := kt hg28 6 k27_6
  have k28_8 := kt hg28 8 k27_8
  have k28_9 := kt hg28 9 k27_9
  have k28_20 := kt hg28 20 k27_20
  have k28_19 := kt hg28 19 k27_19
  have k28_21 := kt hg28 21 k27_21
  have k28_22 := kt hg28 22 k27_22
  have k28_23 := kt hg28 23 (hB28.is 3)
  refine wp_seq_k fun K28 hK28 => ?_
  suffices J214' : ∀ (g_ : Nat → Value) (W_ : World), (∃ (mx : Int), g_ 6 = .bool false ∧ g_ 8 = .pointer (some ⟨bk2, 0, none⟩) ∧ g_ 9 = .pointer (some ⟨bk3, 0, none⟩) ∧ g_ 20 = .pointer (some ⟨(s22 6), 0, none⟩) ∧ g_ 19 = .int .i64 (2 + (wh % 2)) ∧ g_ 21 = .slice (a209') (LW.length) (c210') ∧ g_ 22 = .int .i64 0 ∧ g_ 23 = .int .i64 mx ∧ Below w.heap.size w W_ ∧ W28.heap.size ≤ W_.heap.size ∧ Below W25.heap.size W25 W_ ∧ Pp W_ a209' LW.length c210' LW ∧ mx = (if i = 3 then vi.width.2 else vi.length.2)) → K28 (fr 245 g_) W_ by
    refine wp_seq_k fun K29 hK29 => ?_
    as_aux_lemma =>
    refine region_do 2 [(198, 0), (199, 1)] [[], [0]] (rel [is (.int .i64 (2 + (wh % 2))),
      is (.bool ((2 + (wh % 2)) == 3))]) (by kernel_rfl) (by kernel_rfl) (by kernel_rfl) (by kernel_rfl)
      ⟨is_k, is_k, trivial⟩
      ⟨fun f s W hW hd hs hz ac hac => opv rfl rfl (by simp [go_sem, hac.e 19 k28_19]) rfl,
    fun f s W hW hd hs hz ac hac => opv rfl rfl (by simp [go_sem, hac.e 198 (hd 0 rfl)]) rfl, trivial⟩ ?_
    intro f29 s29 W29 hB29
    have fB29 : Below w.heap.size w W29 := below_trans fB28 hB29.below
    have z29 : W28.heap.size ≤ W29.heap.size := hB29.below.size
    have fA29 := below_trans fA28 hB29.below
    have q215' := (q213'.below hB29.below (Nat.le_refl _))
    refine hK29 _ _ ?_
    generalize hg29 : ov [(198, 0), (199, 1)] f29 g28 = g29
    have k29_6 := kt hg29 6 k28_6
    have k29_8 := kt hg29 8 k28_8
    have k29_9 := kt hg29 9 k28_9
    have k29_20 := kt hg29 20 k28_20
    have k29_19 := kt hg29 19 k28_19
    have k29_21 := kt hg29 21 k28_21
    have k29_22 := kt hg29 22 k28_22
    have k29_23 := kt hg29 23 k28_23
    have k29_199 := kt hg29 199 (hB29.is 1)
    refine wp_cond_split (t := (2 + (wh % 2)) == 3) ((fr_eval rfl).trans k29_199) (fun hc30 => ?_) (fun hc30 => ?_)
    ·
      have hc30' := hc30; try simp only [decide_eq_true_eq, decide_eq_false_iff_not, Bool.and_eq_true, Bool.or_eq_true, Bool.and_eq_false_iff, Bool.or_eq_false_iff, beq_iff_eq, bne_iff_ne, Bool.not_eq_true', Bool.not_eq_false', ne_eq, bne_eq_false_iff_eq, beq_eq_false_iff_ne] at hc30'
      as_aux_lemma =>
      refine region_do 4 [(200, 0), (201, 1), (202, 2), (23, 3)] [[], [0], [0, 1], [0, 1, 2]] (rel [is (.pointer (some ⟨bk3, 2, none⟩)),
      is (.pointer (some ⟨bk3, 3, none⟩)),
      is (.int .i64 vi.width.2),
      is (.int .i64 vi.width.2)]) (by kernel_rfl) (by kernel_rfl) (by kernel_rfl) (by kernel_rfl)
        ⟨is_k, is_k, is_k, is_k, trivial⟩
        ⟨fun f s W hW hd hs hz ac hac => opv rfl rfl (by simp [go_sem, hac.e 9 k29_9]) rfl,
    fun f s W hW hd hs hz ac hac => opv rfl rfl (by simp [go_sem, hac.e 200 (hd 0 rfl)]) rfl,
    fun f s W hW hd hs hz ac hac => by have aW := below_trans fA29 hW; exact opv rfl rfl (by simp [go_sem, hac.e 201 (hd 1 rfl), Joins.cell_of_block (blk_below b25_3 aW) 3]) rfl,
    fun f s W hW hd hs hz ac hac => opv rfl rfl (by simp [go_sem, hac.e 202 (hd 2 rfl)]) rfl, trivial⟩ ?_
      intro f30 s30 W30 hB30
      have fB30 : Below w.heap.size w W30 := below_trans fB29 hB30.below
      have z30 : W29.heap.size ≤ W30.heap.size := hB30.below.size
      have fA30 := below_trans fA29 hB30.below
      have q216' := (q215'.below hB30.below (Nat.le_refl _))
      refine wpOps_end ?_
      generalize hg30 : ov [(200, 0), (201, 1), (202, 2), (23, 3)] f30 g29 = g30
      have k30_6 := kt hg30 6 k29_6
      have k30_8 := kt hg30 8 k29_8
      have k30_9 := kt hg30 9 k29_9
      have k30_20 := kt hg30 20 k29_20
      have k30_19 := kt hg30 19 k29_19
      have k30_21 := kt hg30 21 k29_21
      have k30_22 := kt hg30 22 k29_22
      have k30_23 := kt hg30 23 (hB30.is 3)
      exact J214' _ _ ⟨vi.width.2, k30_6, k30_8, k30_9, k30_20, k30_19, k30_21, k30_22, k30_23.trans (by rfl), fB30, (by omega), fA30, q216', (by rw [if_pos (by have := beq_iff_eq.1 hc30; omega)])⟩
    ·
      have hc30' := hc30; try simp only [decide_eq_true_eq, decide_eq_false_iff_not, Bool.and_eq_true, Bool.or_eq_true, Bool.and_eq_false_iff, Bool.or_eq_false_iff, beq_iff_eq, bne_iff_ne, Bool.not_eq_true', Bool.not_eq_false', ne_eq, bne_eq_false_iff_eq, beq_eq_false_iff_ne] at hc30'
      refine wp_skip ?_
      exact J214' _ _ ⟨vi.length.2, k29_6, k29_8, k29_9, k29_20, k29_19, k29_21, k29_22, k29_23.trans (by rfl), fB29, (by omega), fA29, q215', (by rw [if_neg (by have := beq_eq_false_iff_ne.1 hc30; omega)])⟩
  rintro g_217 W_217 ⟨mx, k_217_6, k_217_8, k_217_9, k_217_20, k_217_19, k_217_21, k_217_22, k_217_23, fB_217, z_217, fA_217, q218', jp_0⟩
  refine hK28 _ _ ?_
  refine wp_seq_k fun K31 hK31 => ?_
  refine wp_seq_k fun K32 hK32 => ?_
  as_aux_lemma =>
  refine region_do 12 [(203, 0), (204, 1), (205, 2), (206, 3), (207, 4), (208, 5), (209, 6), (210, 7), (211, 8), (212, 9), (213, 10), (214, 11)] [[], [0], [], [0, 1, 2], [0, 1, 2, 3], [0, 1, 2, 3, 4], [], [6], [0, 1, 2, 3, 4, 5, 6, 7], [], [9], [0, 1, 2, 3, 4, 5, 6, 7, 8, 9, 10]] (rel [is (.pointer (some ⟨(s22 6), 1, none⟩)),
      is (.slice (some ⟨g168', 0, none⟩) (b.panels.length) (c171')),
      is (.int .i64 (2 + (wh % 2))),
      is (.pointer (some ⟨g168', i, none⟩)),
      is (.int .i64 ((nthI b.panels i) + (bn % 9))),
      is (.int .i64 (1000 * ((nthI b.panels i) + (bn % 9)))),
      is (.pointer (some ⟨bk2, 0, none⟩)),
      is (.int .i64 lo),
      is (.int .i64 ((1000 * ((nthI b.panels i) + (bn % 9))) - lo)),
      is (.int .i64 mx),
      is (.int .i64 (1000 * mx)),
      is (.bool (decide (((1000 * ((nthI b.panels i) + (bn % 9))) - lo) ≤ (1000 * mx))))]) (by kernel_rfl) (by kernel_rfl) (by kernel_rfl) (by kernel_rfl)
    ⟨is_k, is_k, is_k, is_k, is_k, is_k, is_k, is_k, is_k, is_k, is_k, is_k, trivial⟩
    ⟨fun f s W hW hd hs hz ac hac => opv rfl rfl (by simp [go_sem, hac.e 20 k_217_20]) rfl,
    fun f s W hW hd hs hz ac hac => by have aW := below_trans fA_217 hW; exact opv rfl rfl (by simp [go_sem, hac.e 203 (hd 0 rfl), Joins.cell_of_block (blk_below b25_5 aW) 1]) rfl,
    fun f s W hW hd hs hz ac hac => opv rfl rfl (by simp [go_sem, hac.e 19 k_217_19]) rfl,
    fun f s W hW hd hs hz ac hac => opv rfl rfl (by simp [go_sem, hac.e 204 (hd 1 rfl), hac.e 205 (hd 2 rfl), hix, lii]) rfl,
    fun f s W hW hd hs hz ac hac => by have aW := below_trans fA_217 hW; have u4_ : W.cell? ⟨g168', i, none⟩ = some (.int .i64 ((nthI b.panels i) + (bn % 9))) := ((OwnI.cell ((ow25.below aW)) (i := i) (by simp; omega)).trans (by rw [set_nth hil])); exact opv rfl rfl (by simp [go_sem, hac.e 206 (hd 3 rfl), u4_]) rfl,
    fun f s W hW hd hs hz ac hac => opv rfl rfl (by simp [go_sem, hac.e 207 (hd 4 rfl), IntWalk.i64_in (1000 * ((nthI b.panels i) + (bn % 9))) (by omega)]) rfl,
    fun f s W hW hd hs hz ac hac => opv rfl rfl (by simp [go_sem, hac.e 8 k_217_8]) rfl,
    fun f s W hW hd hs hz ac hac => by have aW := below_trans fA_217 hW; exact opv rfl rfl (by simp [go_sem, hac.e 209 (hd 6 rfl), Joins.cell_of_block (blk_below b25_2 aW) 0]) rfl,
    fun f s W hW hd hs hz ac hac => opv rfl rfl (by simp [go_sem, hac.e 208 (hd 5 rfl), hac.e 210 (hd 7 rfl), IntWalk.i64_in ((1000 * ((nthI b.panels i) + (bn % 9))) - lo) (by omega)]) rfl,
    fun f s W hW hd hs hz ac hac => opv rfl rfl (by simp [go_sem, hac.e 23 k_217_23]) rfl,
    fun f s W hW hd hs hz ac hac => opv rfl rfl (by simp [go_sem, hac.e 212 (hd 9 rfl), IntWalk.i64_in (1000 * mx) (by omega)]) rfl,
    fun f s W hW hd hs hz ac hac => opv rfl rfl (by simp [go_sem, hac.e 211 (hd 8 rfl), hac.e 213 (hd 10 rfl)]) rfl, trivial⟩ ?_
  intro f31 s31 W31 hB31
  have fB31 : Below w.heap.size w W31 := below_trans fB_217 hB31.below
  have z31 : W_217.heap.size ≤ W31.heap.size := hB31.below.size
  have fA31 := below_trans fA_217 hB31.below
  have q219' := (q218'.below hB31.below (Nat.le_refl _))
  refine hK32 _ _ ?_
  generalize hg31 : ov [(203, 0), (204, 1), (205, 2), (206, 3), (207, 4), (208, 5), (209, 6), (210, 7), (211, 8), (212, 9), (213, 10), (214, 11)] f31 g_217 = g31
  have k31_6 := kt hg31 6 k_217_6
  have k31_8 := kt hg31 8 k_217_8
  have k31_19 := kt hg31 19 k_217_19
  have k31_21 := kt hg31 21 k_217_21
  have k31_22 := kt hg31 22 k_217_22
  have k31_214 := kt hg31 214 (hB31.is 11)
  refine wp_cond_split (t := decide (((1000 * ((nthI b.panels i) + (bn % 9))) - lo) ≤ (1000 * mx))) ((fr_eval rfl).trans k31_214) (fun hc33 => ?_) (fun hc33 => ?_)
  ·
    have hc33' := hc33; try simp only [decide_eq_true_eq, decide_eq_false_iff_not, Bool.and_eq_true, Bool.or_eq_true, Bool.and_eq_false_iff, Bool.or_eq_false_iff, beq_iff_eq, bne_iff_ne, Bool.not_eq_true', Bool.not_eq_false', ne_eq, bne_eq_false_iff_eq, beq_eq_false_iff_ne] at hc33'
    have hlw := hW0 (by rw [← jp_0]; have := of_decide_eq_true hc33; omega)
    have hlz : ((LW.length : Int) == 0) = true := by rw [hlw]; rfl
    refine wp_seq_k fun K34 hK34 => ?_
    as_aux_lemma =>
    refine region_do 11 [(215, 0), (216, 1), (217, 2), (218, 3), (219, 4), (220, 5), (221, 6), (222, 7), (223, 8), (224, 9), (6, 10)] [[], [0], [0, 1], [0, 1, 2], [0, 1, 2, 3], [0, 1, 2, 3, 4], [0, 1, 2, 3, 4, 5], [0, 1, 2, 3, 4, 5, 6], [0, 1, 2, 3, 4, 5, 6, 7], [0, 1, 2, 3, 4, 5, 6, 7, 8], [0, 1, 2, 3, 4, 5, 6, 7, 8, 9]] (rel [is (.int .i64 0),
      is (.bool true),
      is (.bool true),
      is (.slice (a209') (LW.length) (c210')),
      is (.int .i64 ((LW.length : Int))),
      is (.bool true),
      is (.bool true),
      is (.bool true),
      is (.bool true),
      is (.bool true),
      is (.bool true)]) (by kernel_rfl) (by kernel_rfl) (by kernel_rfl) (by kernel_rfl)
      ⟨is_k, is_k, is_k, is_k, is_k, is_k, is_k, is_k, is_k, is_k, is_k, trivial⟩
      ⟨fun f s W hW hd hs hz ac hac => opv rfl rfl (by simp [go_sem, hac.e 22 k31_22]) rfl,
    fun f s W hW hd hs hz ac hac => opv rfl rfl (by simp [go_sem, hac.e 215 (hd 0 rfl)]) rfl,
    fun f s W hW hd hs hz ac hac => opv rfl rfl (by simp [go_sem, hac.e 216 (hd 1 rfl)]) rfl,
    fun f s W hW hd hs hz ac hac => osure rfl rfl (hac.says (d := 217) rfl rfl (hd 2 rfl)) (gv (by simp [go_sem, hac.e 21 k31_21]) rfl),
    fun f s W hW hd hs hz ac hac => osure rfl rfl (hac.says (d := 217) rfl rfl (hd 2 rfl)) (gv (by simp [go_sem, hac.e 218 (hd 3 rfl)]) rfl),
    fun f s W hW hd hs hz ac hac => osure rfl rfl (hac.says (d := 217) rfl rfl (hd 2 rfl)) (gv (by simp [go_sem, hac.e 219 (hd 4 rfl), hlz]) rfl),
    fun f s W hW hd hs hz ac hac => opk (c := true) rfl rfl (fun h => absurd h (by decide)) (fun _ => by simp [go_sem, hac.e 217 (hd 2 rfl), hac.e 220 (hd 5 rfl)]),
    fun f s W hW hd hs hz ac hac => opv rfl rfl (by simp [go_sem, hac.e 221 (hd 6 rfl)]) rfl,
    fun f s W hW hd hs hz ac hac => osure rfl rfl (hac.says (d := 222) rfl rfl (hd 7 rfl)) (gc (by simp [go_sem]) (known_any W)),
    fun f s W hW hd hs hz ac hac => opk (c := true) rfl rfl (fun h => absurd h (by decide)) (fun _ => by simp [go_sem, hac.e 222 (hd 7 rfl), hac.e 223 (hd 8 rfl)]),
    fun f s W hW hd hs hz ac hac => opv rfl rfl (by simp [go_sem, hac.e 224 (hd 9 rfl)]) rfl, trivial⟩ ?_
    intro f32 s32 W32 hB32
    have fB32 : Below w.heap.size w W32 := below_trans fB31 hB32.below
    have z32 : W31.heap.size ≤ W32.heap.size := hB32.below.size
    have fA32 := below_trans fA31 hB32.below
    have q220' := (q219'.below hB32.below (Nat.le_refl _))
    refine hK34 _ _ ?_
    generalize hg32 : ov [(215, 0), (216, 1), (217, 2), (218, 3), (219, 4), (220, 5), (221, 6), (222, 7), (223, 8), (224, 9), (6, 10)] f32 g31 = g32
    have k32_8 := kt hg32 8 k31_8
    have k32_19 := kt hg32 19 k31_19
    have k32_21 := kt hg32 21 k31_21
    have k32_22 := kt hg32 22 k31_22
    have k32_6 := kt hg32 6 (hB32.is 10)
    refine wp_ret ?_
    refine then_ret ?_
    refine leave_one (N := 245) (v := .bool true) (.inr rfl) Tryz.results7 rfl k32_6 ?_
    exact ⟨rfl, fB32⟩
  ·
    have hc33' := hc33; try simp only [decide_eq_true_eq, decide_eq_false_iff_not, Bool.and_eq_true, Bool.or_eq_true, Bool.and_eq_false_iff, Bool.or_eq_false_iff, beq_iff_eq, bne_iff_ne, Bool.not_eq_true', Bool.not_eq_false', ne_eq, bne_eq_false_iff_eq, beq_eq_false_iff_ne] at hc33'
    have hlw := hW1 (by rw [← jp_0]; have := of_decide_eq_false hc33; omega)
    have hlz : ((LW.length : Int) == 1) = true := by rw [hlw]; rfl
    obtain ⟨bw, ow, haw⟩ := q219'.at' (by rw [hlw]; exact Nat.zero_lt_one)
    have liw := Nat.not_le.2 (show 0 < LW.length by rw [hlw]; exact Nat.zero_lt_one)
    refine wp_skip ?_
    refine hK31 _ _ ?_
    refine wp_seq_k fun K35 hK35 => ?_
    as_aux_lemma =>
    refine region_do 21 [(225, 0), (226, 1), (227, 2), (228, 3), (229, 4), (230, 5), (231, 6), (232, 7), (233, 8), (234, 9), (235, 10), (236, 11), (237, 12), (238, 13), (239, 14), (240, 15), (241, 16), (242, 17), (243, 18), (244, 19), (6, 20)] [[], [0], [0, 1], [0, 1, 2], [0, 1, 2, 3], [0, 1, 2, 3, 4], [0, 1, 2, 3, 4, 5], [0, 1, 2, 3, 4, 5, 6], [0, 1, 2, 3, 4, 5, 6, 7], [0, 1, 2, 3, 4, 5, 6, 7, 8], [0, 1, 2, 3, 4, 5, 6, 7, 8, 9], [0, 1, 2, 3, 4, 5, 6, 7], [0, 1, 2, 3, 4, 5, 6, 7], [0, 1, 2, 3, 4, 5, 6, 7, 12], [0, 1, 2, 3, 4, 5, 6, 7, 11, 12, 13], [0, 1, 2, 3, 4, 5, 6, 7, 8, 9, 10, 11, 12, 13, 14], [0, 1, 2, 3, 4, 5, 6, 7, 8, 9, 10, 11, 12, 13, 14, 15], [0, 1, 2, 3, 4, 5, 6, 7, 8, 9, 10, 11, 12, 13, 14, 15, 16], [0, 1, 2, 3, 4, 5, 6, 7, 8, 9, 10, 11, 12, 13, 14, 15, 16, 17], [0, 1, 2, 3, 4, 5, 6, 7, 8, 9, 10, 11, 12, 13, 14, 15, 16, 17, 18], [0, 1, 2, 3, 4, 5, 6, 7, 8, 9, 10, 11, 12, 13, 14, 15, 16, 17, 18, 19]] (rel [is (.int .i64 0),
      is (.bool true),
      is (.bool true),
      is (.slice (a209') (LW.length) (c210')),
      is (.int .i64 ((LW.length : Int))),
      is (.bool true),
      is (.bool true),
      is (.bool true),
      is (.slice (a209') (LW.length) (c210')),
      is (.pointer (some ⟨bw, ow, none⟩)),
      is (.agg #[.int .i64 (2 + (wh % 2)), .int .i64 lo]),
      is (.int .i64 (2 + (wh % 2))),
      is (.pointer (some ⟨bk2, 0, none⟩)),
      is (.int .i64 lo),
      is (.agg #[.int .i64 (2 + (wh % 2)), .int .i64 lo]),
      is (.bool true),
      is (.bool true),
      is (.bool true),
      is (.bool true),
      is (.bool true),
      is (.bool true)]) (by kernel_rfl) (by kernel_rfl) (by kernel_rfl) (by kernel_rfl)
      ⟨is_k, is_k, is_k, is_k, is_k, is_k, is_k, is_k, is_k, is_k, is_k, is_k, is_k, is_k, is_k, is_k, is_k, is_k, is_k, is_k, is_k, trivial⟩
      ⟨fun f s W hW hd hs hz ac hac => opv rfl rfl (by simp [go_sem, hac.e 22 k31_22]) rfl,
    fun f s W hW hd hs hz ac hac => opv rfl rfl (by simp [go_sem, hac.e 225 (hd 0 rfl)]) rfl,
    fun f s W hW hd hs hz ac hac => opv rfl rfl (by simp [go_sem, hac.e 226 (hd 1 rfl)]) rfl,
    fun f s W hW hd hs hz ac hac => osure rfl rfl (hac.says (d := 227) rfl rfl (hd 2 rfl)) (gv (by simp [go_sem, hac.e 21 k31_21]) rfl),
    fun f s W hW hd hs hz ac hac => osure rfl rfl (hac.says (d := 227) rfl rfl (hd 2 rfl)) (gv (by simp [go_sem, hac.e 228 (hd 3 rfl)]) rfl),
    fun f s W hW hd hs hz ac hac => osure rfl rfl (hac.says (d := 227) rfl rfl (hd 2 rfl)) (gv (by simp [go_sem, hac.e 229 (hd 4 rfl), hlz]) rfl),
    fun f s W hW hd hs hz ac hac => opk (c := true) rfl rfl (fun h => absurd h (by decide)) (fun _ => by simp [go_sem, hac.e 227 (hd 2 rfl), hac.e 230 (hd 5 rfl)]),
    fun f s W hW hd hs hz ac hac => opv rfl rfl (by simp [go_sem, hac.e 231 (hd 6 rfl)]) rfl,
    fun f s W hW hd hs hz ac hac => osure rfl rfl (hac.says (d := 232) rfl rfl (hd 7 rfl)) (gv (by simp [go_sem, hac.e 21 k31_21]) rfl),
    fun f s W hW hd hs hz ac hac => osure rfl rfl (hac.says (d := 232) rfl rfl (hd 7 rfl)) (gv (by simp [go_sem, hac.e 233 (hd 8 rfl), haw, liw]) rfl),
    fun f s W hW hd hs hz ac hac => osure rfl rfl (hac.says (d := 232) rfl rfl (hd 7 rfl)) (by have cu := pp_nth (i := 0) (q219'.below hW (Nat.le_refl _)) haw (by rw [hlw]; exact Nat.zero_lt_one); rw [show nthP LW 0 = ((i : Int), lo) from (by rw [hlw]; rfl), ← hix] at cu; have cx_ : W.cell? ⟨bw, ow, none⟩ = some (.int .i64 (2 + (wh % 2))) := cu.1; have cy_ : W.cell? ⟨bw, ow + 1, none⟩ = some (.int .i64 lo) := cu.2; exact gv (by simp [go_sem, hac.e 234 (hd 9 rfl), cx_, cy_]) rfl),
    fun f s W hW hd hs hz ac hac => osure rfl rfl (hac.says (d := 232) rfl rfl (hd 7 rfl)) (gv (by simp [go_sem, hac.e 19 k31_19]) rfl),
    fun f s W hW hd hs hz ac hac => osure rfl rfl (hac.says (d := 232) rfl rfl (hd 7 rfl)) (gv (by simp [go_sem, hac.e 8 k31_8]) rfl),
    fun f s W hW hd hs hz ac hac => osure rfl rfl (hac.says (d := 232) rfl rfl (hd 7 rfl)) (by have aW := below_trans fA31 hW; exact gv (by simp [go_sem, hac.e 237 (hd 12 rfl), Joins.cell_of_block (blk_below b25_2 aW) 0]) rfl),
    fun f s W hW hd hs hz ac hac => osure rfl rfl (hac.says (d := 232) rfl rfl (hd 7 rfl)) (gv (by simp [go_sem, hac.e 236 (hd 11 rfl), hac.e 238 (hd 13 rfl)]) rfl),
    fun f s W hW hd hs hz ac hac => osure rfl rfl (hac.says (d := 232) rfl rfl (hd 7 rfl)) (gv (by simp [go_sem, hac.e 235 (hd 10 rfl), hac.e 239 (hd 14 rfl)]) rfl),
    fun f s W hW hd hs hz ac hac => opk (c := true) rfl rfl (fun h => absurd h (by decide)) (fun _ => by simp [go_sem, hac.e 232 (hd 7 rfl), hac.e 240 (hd 15 rfl)]),
    fun f s W hW hd hs hz ac hac => opv rfl rfl (by simp [go_sem, hac.e 241 (hd 16 rfl)]) rfl,
    fun f s W hW hd hs hz ac hac => osure rfl rfl (hac.says (d := 242) rfl rfl (hd 17 rfl)) (gc (by simp [go_sem]) (known_any W)),
    fun f s W hW hd hs hz ac hac => opk (c := true) rfl rfl (fun h => absurd h (by decide)) (fun _ => by simp [go_sem, hac.e 242 (hd 17 rfl), hac.e 243 (hd 18 rfl)]),
    fun f s W hW hd hs hz ac hac => opv rfl rfl (by simp [go_sem, hac.e 244 (hd 19 rfl)]) rfl, trivial⟩ ?_
    intro f33 s33 W33 hB33
    have fB33 : Below w.heap.size w W33 := below_trans fB31 hB33.below
    have z33 : W31.heap.size ≤ W33.heap.size := hB33.below.size
    have fA33 := below_trans fA31 hB33.below
    have q221' := (q219'.below hB33.below (Nat.le_refl _))
    refine hK35 _ _ ?_
    generalize hg33 : ov [(225, 0), (226, 1), (227, 2), (228, 3), (229, 4), (230, 5), (231, 6), (232, 7), (233, 8), (234, 9), (235, 10), (236, 11), (237, 12), (238, 13), (239, 14), (240, 15), (241, 16), (242, 17), (243, 18), (244, 19), (6, 20)] f33 g31 = g33
    have k33_6 := kt hg33 6 (hB33.is 20)
    refine wp_ret ?_
    refine leave_one (N := 245) (v := .bool true) (.inr rfl) Tryz.results7 rfl k33_6 ?_
    exact ⟨rfl, fB33⟩
end Go.Proofs.YthnediamopehfaaGreat
