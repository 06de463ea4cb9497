/- Part of the proof: what the claim leans on. -/
import Derived.Test.YthnediamopehfaaGreatZFOL7
set_option linter.unusedSimpArgs false
set_option linter.unusedVariables false
namespace Go.Proofs.YthnediamopehfaaGreat
open Go.RowKit
set_option maxRecDepth 100000 in
set_option maxHeartbeats 40000000 in
theorem folds_main_c8 (x : Sh) (gx : ShIn x) (wh bn : Int) (hwh : 0 ≤ wh ∧ wh ≤ 255) (hbn : 0 ≤ bn ∧ bn ≤ 255) (b d : Bl) (vi : Wi) (lo hi q1 q2 : Int) (L L9 LW : List Sp) (i : Nat) (w : World) (hbx : shBl x = d) (ht : twinB d = b) (hcx : shCal x = (lo, hi)) (hto : b.isOpen = vi.isOpen) (hv : wishOf x b lo hi = vi) (hkd : checkErr d = 0) (hck : checkErr b = 0) (hwv : wishErr vi = 0) (j1 : 1 ≤ lo) (j2 : lo ≤ hi) (j3 : hi ≤ 10000) (hL : closeL b vi (lo, hi) = L) (hL0 : ((L.length : Int) != 0) = false) (hF : calErr b vi = 0) (hq : calOf b vi = (q1, q2)) (hq1 : q1 ≤ lo) (hq2 : hi ≤ q2) (hq3 : 1 ≤ q1) (hq4 : q2 ≤ 10000) (hL9 : innerL b (lo, hi) 0 = L9) (hn9 : L9.length = 9) (hmic : ∀ j c, j < 9 → lo ≤ c → c ≤ hi → (nthP L9 j).1 ≤ mic b c j ∧ mic b c j ≤ (nthP L9 j).2) (hmh : ∀ j, j < 9 → mic b hi j = (nthP L9 j).1) (hml : ∀ j, j < 9 → mic b lo j = (nthP L9 j).2) (n1 : b.panels.length ≤ 1000) (n2 : b.top.length ≤ 1000) (n3 : b.bottom.length ≤ 1000) (hix : 2 + (wh % 2) = (i : Int)) (hil : i < b.panels.length) (hpi : 1 ≤ nthI b.panels i ∧ nthI b.panels i ≤ 2000) (hckw : checkErr (longer b i ((nthI b.panels i) + (bn % 9))) = 0) (hLW : closeL (longer b i ((nthI b.panels i) + (bn % 9))) vi (lo, hi) = LW) (hW0 : 1000 * ((nthI b.panels i) + (bn % 9)) - lo ≤ 1000 * (if i = 3 then vi.width.2 else vi.length.2) → LW = []) (hW1 : ¬ 1000 * ((nthI b.panels i) + (bn % 9)) - lo ≤ 1000 * (if i = 3 then vi.width.2 else vi.length.2) → LW = [((i : Int), lo)]) (hvl : -10000 ≤ vi.length.2 ∧ vi.length.2 ≤ 10000) (hvw : -10000 ≤ vi.width.2 ∧ vi.width.2 ≤ 10000) (g_ : Nat → Value) (W_ : World) (bk1 : Nat) (bk2 : Nat) (bk3 : Nat) (a88' : Option Addr) (c89' : Nat) (g10' : Nat) (c13' : Nat) (g11' : Nat) (c14' : Nat) (g12' : Nat) (c15' : Nat) (a52' : Option Addr) (c53' : Nat) (bk0 : Nat) (bk4 : Nat)  (k_1 : g_ 1 = .int .u8 wh) (k_2 : g_ 2 = .int .u8 bn) (k_6 : g_ 6 = .bool false) (k_7 : g_ 7 = .pointer (some ⟨bk1, 0, none⟩)) (k_8 : g_ 8 = .pointer (some ⟨bk2, 0, none⟩)) (k_9 : g_ 9 = .pointer (some ⟨bk3, 0, none⟩)) (k_14 : g_ 14 = .slice (a88') (L9.length) (c89')) (fB_ : Below w.heap.size w W_) (bl_0 : W_.heap[bk0]? = some (.cells #[.int .u8 x.x0, .int .u8 x.x1, .int .u8 x.x2, .int .u8 x.x3, .int .u8 x.xh, .int .u8 x.y0, .int .u8 x.y1, .int .u8 x.y2, .int .u8 x.y3, .bool x.xo, .int .u8 x.ca, .int .u8 x.cb, .int .u8 x.v0, .int .u8 x.v1, .int .u8 x.v2, .int .u8 x.v3, .int .u8 x.v4] 72 (0, 0))) (bl_1 : W_.heap[bk1]? = some (.cells #[.int .i64 b.tab, .slice (some ⟨g10', 0, none⟩) (b.panels.length) (c13'), .int .i64 b.height, .slice (some ⟨g11', 0, none⟩) (b.top.length) (c14'), .slice (some ⟨g12', 0, none⟩) (b.bottom.length) (c15'), .int .i64 b.slot, .bool b.isOpen] 24 (0, 0))) (bl_2 : W_.heap[bk2]? = some (.cells #[.int .i64 lo, .int .i64 hi] 26 (0, 0))) (bl_3 : W_.heap[bk3]? = some (.cells #[.int .i64 vi.length.1, .int .i64 vi.length.2, .int .i64 vi.width.1, .int .i64 vi.width.2, .int .i64 vi.height.1, .int .i64 vi.height.2, .int .i64 vi.outer.1, .int .i64 vi.outer.2, .int .i64 vi.inner.1, .int .i64 vi.inner.2, .bool vi.isOpen] 43 (0, 0))) (bl_4 : W_.heap[bk4]? = some (.cells #[.int .i64 q1, .int .i64 q2] 26 (0, 0))) (ft_0 : OwnI 0 b.panels g10' c13' W_) (ft_1 : OwnI 0 b.top g11' c14' W_) (ft_2 : OwnI 0 b.bottom g12' c15' W_) (ft_3 : Pp W_ a52' L.length c53' L) (ft_4 : Pp W_ a88' L9.length c89' L9) (lw_bk0 : w.heap.size ≤ bk0) (lw_bk1 : w.heap.size ≤ bk1) (lw_bk2 : w.heap.size ≤ bk2) (lw_bk3 : w.heap.size ≤ bk3) (lw_bk4 : w.heap.size ≤ bk4) (ne_0_1 : bk0 ≠ bk1) (ne_0_2 : bk0 ≠ bk2) (ne_1_2 : bk1 ≠ bk2) (ne_0_3 : bk0 ≠ bk3) (ne_1_3 : bk1 ≠ bk3) (ne_2_3 : bk2 ≠ bk3) (ne_0_4 : bk0 ≠ bk4) (ne_1_4 : bk1 ≠ bk4) (ne_2_4 : bk2 ≠ bk4) (ne_3_4 : bk3 ≠ bk4) :
    (tailC 7 (bodyC Tryz.f7)).wp Tryz.prog (bodyPost Tryz.prog Tryz.f7 (fun e w' => e = .returned (.bool true) ∧ Below w.heap.size w w')) (fr 245 g_) W_ := by
  have hq1n := Int.not_lt.2 hq1
  have hq2n := Int.not_lt.2 hq2
  have hq3n := Int.not_lt.2 hq3
  have hq4n := Int.not_lt.2 hq4
  have hL9z : ((L9.length : Int) != 9) = false := by rw [hn9]; rfl
  have lii := Nat.not_le.2 hil
  have lt_bk0 := lt_of_blk bl_0
  have lt_bk1 := lt_of_blk bl_1
  have lt_bk2 := lt_of_blk bl_2
  have lt_bk3 := lt_of_blk bl_3
  have lt_bk4 := lt_of_blk bl_4
  have lim102' := Pp.lim ft_3
  have lim103' := Pp.lim ft_4
  refine wp_seq_k fun K10 hK10 => ?_
  refine wp_seq_k fun K11 hK11 => ?_
  as_aux_lemma =>
  refine region_do 1 [(16, 0)] [[]] (rel [is (.int .i64 0)]) (by kernel_rfl) (by kernel_rfl) (by kernel_rfl) (by kernel_rfl)
    ⟨is_k, trivial⟩
    ⟨fun f s W hW hd hs hz ac hac => opv rfl rfl (by simp [go_sem]) rfl, trivial⟩ ?_
  intro f13 s13 W13 hB13
  have fB13 : Below w.heap.size w W13 := below_trans fB_ hB13.below
  have z13 : W_.heap.size ≤ W13.heap.size := hB13.below.size
  have b13_0 := blk_below bl_0 hB13.below
  have b13_1 := blk_below bl_1 hB13.below
  have b13_2 := blk_below bl_2 hB13.below
  have b13_3 := blk_below bl_3 hB13.below
  have b13_4 := blk_below bl_4 hB13.below
  have q104' := (ft_0.below hB13.below)
  have q105' := (ft_1.below hB13.below)
  have q106' := (ft_2.below hB13.below)
  have q107' := (ft_3.below hB13.below (Nat.le_refl _))
  have q108' := (ft_4.below hB13.below (Nat.le_refl _))
  refine hK11 _ _ ?_
  generalize hg13 : ov [(16, 0)] f13 g_ = g13
  have k13_1 := kt hg13 1 k_1
  have k13_2 := kt hg13 2 k_2
  have k13_6 := kt hg13 6 k_6
  have k13_7 := kt hg13 7 k_7
  have k13_8 := kt hg13 8 k_8
  have k13_9 := kt hg13 9 k_9
  have k13_14 := kt hg13 14 k_14
  have k13_16 := kt hg13 16 (hB13.is 0)
  refine wp_block ?_
  refine wp_loop_n (fun m_ a_ W_ => ∃ g_ : Nat → Value, a_ = fr 245 g_ ∧ (∃ k : Nat, m_ = 3 - k ∧ g_ 1 = .int .u8 wh ∧ g_ 2 = .int .u8 bn ∧ g_ 6 = .bool false ∧ g_ 7 = .pointer (some ⟨bk1, 0, none⟩) ∧ g_ 8 = .pointer (some ⟨bk2, 0, none⟩) ∧ g_ 9 = .pointer (some ⟨bk3, 0, none⟩) ∧ g_ 14 = .slice (a88') (L9.length) (c89') ∧ g_ 16 = .int .i64 ((k : Int)) ∧ Below w.heap.size w W_ ∧ W13.heap.size ≤ W_.heap.size ∧ W_.heap[bk0]? = some (.cells #[.int .u8 x.x0, .int .u8 x.x1, .int .u8 x.x2, .int .u8 x.x3, .int .u8 x.xh, .int .u8 x.y0, .int .u8 x.y1, .int .u8 x.y2, .int .u8 x.y3, .bool x.xo, .int .u8 x.ca, .int .u8 x.cb, .int .u8 x.v0, .int .u8 x.v1, .int .u8 x.v2, .int .u8 x.v3, .int .u8 x.v4] 72 (0, 0)) ∧ W_.heap[bk1]? = some (.cells #[.int .i64 b.tab, .slice (some ⟨g10', 0, none⟩) (b.panels.length) (c13'), .int .i64 b.height, .slice (some ⟨g11', 0, none⟩) (b.top.length) (c14'), .slice (some ⟨g12', 0, none⟩) (b.bottom.length) (c15'), .int .i64 b.slot, .bool b.isOpen] 24 (0, 0)) ∧ W_.heap[bk2]? = some (.cells #[.int .i64 lo, .int .i64 hi] 26 (0, 0)) ∧ W_.heap[bk3]? = some (.cells #[.int .i64 vi.length.1, .int .i64 vi.length.2, .int .i64 vi.width.1, .int .i64 vi.width.2, .int .i64 vi.height.1, .int .i64 vi.height.2, .int .i64 vi.outer.1, .int .i64 vi.outer.2, .int .i64 vi.inner.1, .int .i64 vi.inner.2, .bool vi.isOpen] 43 (0, 0)) ∧ W_.heap[bk4]? = some (.cells #[.int .i64 q1, .int .i64 q2] 26 (0, 0)) ∧ OwnI 0 b.panels g10' c13' W_ ∧ OwnI 0 b.top g11' c14' W_ ∧ OwnI 0 b.bottom g12' c15' W_ ∧ Pp W_ a52' L.length c53' L ∧ Pp W_ a88' L9.length c89' L9 ∧ (k ≤ 3))) ⟨_, g13, rfl, 0, rfl, k13_1, k13_2, k13_6, k13_7, k13_8, k13_9, k13_14, k13_16.trans (by rfl), fB13, Nat.le_refl _, b13_0, b13_1, b13_2, b13_3, b13_4, q104', q105', q106', q107', q108', (by omega)⟩ ?_
  rintro _ _ W_109 ⟨g_109, rfl, k, rfl, k_109_1, k_109_2, k_109_6, k_109_7, k_109_8, k_109_9, k_109_14, k_109_16, fB_109, z_109, b_109_0, b_109_1, b_109_2, b_109_3, b_109_4, q110', q111', q112', q113', q114', lp0⟩
  refine wp_seq_k fun K12 hK12 => ?_
  refine wp_seq_k fun K13 hK13 => ?_
  as_aux_lemma =>
  refine region_do 2 [(99, 0), (100, 1)] [[], [0]] (rel [is (.int .i64 ((k : Int))),
      is (.bool (decide ((k : Int) < 3)))]) (by kernel_rfl) (by kernel_rfl) (by kernel_rfl) (by kernel_rfl)
    ⟨is_k, is_k, trivial⟩
    ⟨fun f s W hW hd hs hz ac hac => opv rfl rfl (by simp [go_sem, hac.e 16 k_109_16]) rfl,
    fun f s W hW hd hs hz ac hac => opv rfl rfl (by simp [go_sem, hac.e 99 (hd 0 rfl)]) rfl, trivial⟩ ?_
  intro f14 s14 W14 hB14
  have fB14 : Below w.heap.size w W14 := below_trans fB_109 hB14.below
  have z14 : W_109.heap.size ≤ W14.heap.size := hB14.below.size
  have b14_0 := blk_below b_109_0 hB14.below
  have b14_1 := blk_below b_109_1 hB14.below
  have b14_2 := blk_below b_109_2 hB14.below
  have b14_3 := blk_below b_109_3 hB14.below
  have b14_4 := blk_below b_109_4 hB14.below
  have q115' := (q110'.below hB14.below)
  have q116' := (q111'.below hB14.below)
  have q117' := (q112'.below hB14.below)
  have q118' := (q113'.below hB14.below (Nat.le_refl _))
  have q119' := (q114'.below hB14.below (Nat.le_refl _))
  refine hK13 _ _ ?_
  generalize hg14 : ov [(99, 0), (100, 1)] f14 g_109 = g14
  have k14_1 := kt hg14 1 k_109_1
  have k14_2 := kt hg14 2 k_109_2
  have k14_6 := kt hg14 6 k_109_6
  have k14_7 := kt hg14 7 k_109_7
  have k14_8 := kt hg14 8 k_109_8
  have k14_9 := kt hg14 9 k_109_9
  have k14_14 := kt hg14 14 k_109_14
  have k14_16 := kt hg14 16 k_109_16
  have k14_100 := kt hg14 100 (hB14.is 1)
  refine wp_cond_split (t := decide ((k : Int) < 3)) ((fr_eval rfl).trans k14_100) (fun hc14 => ?_) (fun hc14 => ?_)
  ·
    have hc14' := hc14; try simp only [decide_eq_true_eq, decide_eq_false_iff_not, Bool.and_eq_true, Bool.or_eq_true, Bool.and_eq_false_iff, Bool.or_eq_false_iff, beq_iff_eq, bne_iff_ne, Bool.not_eq_true', Bool.not_eq_false', ne_eq, bne_eq_false_iff_eq, beq_eq_false_iff_ne] at hc14'
    have hk3 : k = 0 ∨ k = 1 ∨ k = 2 := by omega
    have hmid := mid3_in j2 hk3
    refine wp_skip ?_
    refine hK12 _ _ ?_
    refine wp_seq_k fun K15 hK15 => ?_
    refine wp_block ?_
    refine wp_seq_k fun K16 hK16 => ?_
    as_aux_lemma =>
    refine region_do 16 [(103, 0), (104, 1), (105, 2), (106, 3), (107, 4), (108, 5), (109, 6), (110, 7), (111, 8), (112, 9), (113, 10), (114, 11), (115, 12), (116, 13), (117, 14), (17, 15)] [[], [], [1], [], [3], [], [5], [], [7], [5, 6, 7, 8], [5, 6, 7, 8, 9], [1, 2, 3, 4, 5, 6, 7, 8, 9, 10], [], [1, 2, 3, 4, 5, 6, 7, 8, 9, 10, 11, 12], [0, 1, 2, 3, 4, 5, 6, 7, 8, 9, 10, 11, 12, 13], [], [0, 1, 2, 3, 4, 5, 6, 7, 8, 9, 10, 11, 12, 13, 14, 15]] (rel [is (.agg #[.int .i64 b.tab, .slice (some ⟨g10', 0, none⟩) (b.panels.length) (c13'), .int .i64 b.height, .slice (some ⟨g11', 0, none⟩) (b.top.length) (c14'), .slice (some ⟨g12', 0, none⟩) (b.bottom.length) (c15'), .int .i64 b.slot, .bool b.isOpen]),
      is (.pointer (some ⟨bk2, 0, none⟩)),
      is (.int .i64 lo),
      is (.pointer (some ⟨bk2, 1, none⟩)),
      is (.int .i64 hi),
      is (.pointer (some ⟨bk2, 0, none⟩)),
      is (.int .i64 lo),
      is (.pointer (some ⟨bk2, 1, none⟩)),
      is (.int .i64 hi),
      is (.int .i64 (lo + hi)),
      is (.int .i64 ((lo + hi) / 2)),
      is (.agg #[.int .i64 lo, .int .i64 hi, .int .i64 ((lo + hi) / 2)]),
      is (.int .i64 ((k : Int))),
      is (.int .i64 (mid3 lo hi k)),
      is (.agg #[.int .i64 (mic b (mid3 lo hi k) 0), .int .i64 (mic b (mid3 lo hi k) 1), .int .i64 (mic b (mid3 lo hi k) 2), .int .i64 (mic b (mid3 lo hi k) 3), .int .i64 (mic b (mid3 lo hi k) 4), .int .i64 (mic b (mid3 lo hi k) 5), .int .i64 (mic b (mid3 lo hi k) 6), .int .i64 (mic b (mid3 lo hi k) 7), .int .i64 (mic b (mid3 lo hi k) 8)]),
      bx 15 #[.int .i64 0, .int .i64 0, .int .i64 0, .int .i64 0, .int .i64 0, .int .i64 0, .int .i64 0, .int .i64 0, .int .i64 0] 76]) (by kernel_rfl) (by kernel_rfl) (by kernel_rfl) (by kernel_rfl)
      ⟨is_k, is_k, is_k, is_k, is_k, is_k, is_k, is_k, is_k, is_k, is_k, is_k, is_k, is_k, is_k, bx_k, trivial⟩
      ⟨fun f s W hW hd hs hz ac hac => opl rfl rfl rfl (hac.v 7 k14_7) (blk_below b14_1 hW) Tryz.underlying24 rfl (by kernel_rfl) rfl,
    fun f s W hW hd hs hz ac hac => opv rfl rfl (by simp [go_sem, hac.e 8 k14_8]) rfl,
    fun f s W hW hd hs hz ac hac => opv rfl rfl (by simp [go_sem, hac.e 104 (hd 1 rfl), Joins.cell_of_block (blk_below b14_2 hW) 0]) rfl,
    fun f s W hW hd hs hz ac hac => opv rfl rfl (by simp [go_sem, hac.e 8 k14_8]) rfl,
    fun f s W hW hd hs hz ac hac => opv rfl rfl (by simp [go_sem, hac.e 106 (hd 3 rfl), Joins.cell_of_block (blk_below b14_2 hW) 1]) rfl,
    fun f s W hW hd hs hz ac hac => opv rfl rfl (by simp [go_sem, hac.e 8 k14_8]) rfl,
    fun f s W hW hd hs hz ac hac => opv rfl rfl (by simp [go_sem, hac.e 108 (hd 5 rfl), Joins.cell_of_block (blk_below b14_2 hW) 0]) rfl,
    fun f s W hW hd hs hz ac hac => opv rfl rfl (by simp [go_sem, hac.e 8 k14_8]) rfl,
    fun f s W hW hd hs hz ac hac => opv rfl rfl (by simp [go_sem, hac.e 110 (hd 7 rfl), Joins.cell_of_block (blk_below b14_2 hW) 1]) rfl,
    fun f s W hW hd hs hz ac hac => opv rfl rfl (by simp [go_sem, hac.e 109 (hd 6 rfl), hac.e 111 (hd 8 rfl), IntWalk.i64_in (lo + hi) (by omega)]) rfl,
    fun f s W hW hd hs hz ac hac => by have qu_ : (lo + hi).tdiv 2 = (lo + hi) / 2 := Int.tdiv_eq_ediv_of_nonneg (by omega); have qw_ := IntWalk.i64_in ((lo + hi) / 2) (by omega); exact opv rfl rfl (by simp [go_sem, hac.e 112 (hd 9 rfl), qu_, qw_]) rfl,
    fun f s W hW hd hs hz ac hac => opv rfl rfl (by simp [go_sem, hac.e 105 (hd 2 rfl), hac.e 107 (hd 4 rfl), hac.e 113 (hd 10 rfl)]) rfl,
    fun f s W hW hd hs hz ac hac => opv rfl rfl (by simp [go_sem, hac.e 16 k14_16]) rfl,
    fun f s W hW hd hs hz ac hac => by have ix_ : ∀ W : World, (Instr.index 78 (.agg #[.int .i64 lo, .int .i64 hi, .int .i64 ((lo + hi) / 2)]) (.int .i64 ((k : Int)))).run Tryz.prog W = .ok (.int .i64 (mid3 lo hi k)) W := fun W => (by rcases hk3 with rfl | rfl | rfl <;> kernel_rfl); exact opv rfl rfl (by simp [go_sem, hac.e 114 (hd 11 rfl), hac.e 115 (hd 12 rfl), ix_]) rfl,
    fun f s W hW hd hs hz ac hac => opc (args := #[.agg #[.int .i64 b.tab, .slice (some ⟨g10', 0, none⟩) (b.panels.length) (c13'), .int .i64 b.height, .slice (some ⟨g11', 0, none⟩) (b.top.length) (c14'), .slice (some ⟨g12', 0, none⟩) (b.bottom.length) (c15'), .int .i64 b.slot, .bool b.isOpen], .int .i64 (mid3 lo hi k)]) rfl rfl (by simp [go_sem, hac.e 103 (hd 0 rfl), hac.e 116 (hd 13 rfl)]) (micros_blk _ _ _ _ _ _ b (mid3 lo hi k) W ((q115'.below hW)).ii ((q116'.below hW)).ii ((q117'.below hW)).ii hck (by omega)),
    fun f s W hW hd hs hz ac hac => opb rfl rfl (by simp [go_sem]), trivial⟩ ?_
    intro f15 s15 W15 hB15
    have fB15 : Below w.heap.size w W15 := below_trans fB14 hB15.below
    have z15 : W14.heap.size ≤ W15.heap.size := hB15.below.size
    have b15_0 := blk_below b14_0 hB15.below
    have b15_1 := blk_below b14_1 hB15.below
    have b15_2 := blk_below b14_2 hB15.below
    have b15_3 := blk_below b14_3 hB15.below
    have b15_4 := blk_below b14_4 hB15.below
    have q120' := (q115'.below hB15.below)
    have q121' := (q116'.below hB15.below)
    have q122' := (q117'.below hB15.below)
    have q123' := (q118'.below hB15.below (Nat.le_refl _))
    have q124' := (q119'.below hB15.below (Nat.le_refl _))
    obtain ⟨r15_15, br15_15⟩ := hB15.is 15
    have lr15_15 : W14.heap.size ≤ s15 15 ∧ s15 15 < W15.heap.size := ⟨hB15.from' 15 (by decide), lt_of_blk br15_15⟩
    generalize hg15 : ov [(103, 0), (104, 1), (105, 2), (106, 3), (107, 4), (108, 5), (109, 6), (110, 7), (111, 8), (112, 9), (113, 10), (114, 11), (115, 12), (116, 13), (117, 14), (17, 15)] f15 g14 = g15
    have k15_1 := kt hg15 1 k14_1
    have k15_2 := kt hg15 2 k14_2
    have k15_6 := kt hg15 6 k14_6
    have k15_7 := kt hg15 7 k14_7
    have k15_8 := kt hg15 8 k14_8
    have k15_9 := kt hg15 9 k14_9
    have k15_14 := kt hg15 14 k14_14
    have k15_16 := kt hg15 16 k14_16
    have k15_117 := kt hg15 117 (hB15.is 14)
    have k15_17 := kt hg15 17 r15_15
    obtain ⟨W16, hW16⟩ : ∃ W', W' = W15.setRow (s15 15) #[.int .i64 (mic b (mid3 lo hi k) 0), .int .i64 (mic b (mid3 lo hi k) 1), .int .i64 (mic b (mid3 lo hi k) 2), .int .i64 (mic b (mid3 lo hi k) 3), .int .i64 (mic b (mid3 lo hi k) 4), .int .i64 (mic b (mid3 lo hi k) 5), .int .i64 (mic b (mid3 lo hi k) 6), .int .i64 (mic b (mid3 lo hi k) 7), .int .i64 (mic b (mid3 lo hi k) 8)] := ⟨_, rfl⟩
    refine tail_skip (o := _) rfl ⟨rfl, rfl⟩ (run_seg hW16 (fr_ev k15_17) (fr_ev k15_117) br15_15 rfl rfl rfl rfl) ?_
    obtain ⟨fB16, nb16, ot16, z16⟩ := seg_facts hW16 fB15 br15_15 (by omega)
    clear hW16
    have b16_0 := ot16 _ _ (by omega) b15_0
    have b16_1 := ot16 _ _ (by omega) b15_1
    have b16_2 := ot16 _ _ (by omega) b15_2
    have b16_3 := ot16 _ _ (by omega) b15_3
    have b16_4 := ot16 _ _ (by omega) b15_4
    have q125' := q120'.other ot16 (own_ne q120' br15_15) z16
    have q126' := q121'.other ot16 (own_ne q121' br15_15) z16
    have q127' := q122'.other ot16 (own_ne q122' br15_15) z16
    have q128' := (q123'.otherA ot16 (fun g o e hx => by have := lim102' g o e hx; omega) z16)
    have q129' := (q124'.otherA ot16 (fun g o e hx => by have := lim103' g o e hx; omega) z16)
    refine wpOps_end ?_
    refine hK16 _ _ ?_
    refine wp_seq_k fun K17 hK17 => ?_
    as_aux_lemma =>
    refine region_do 1 [(18, 0)] [[]] (rel [is (.int .i64 0)]) (by kernel_rfl) (by kernel_rfl) (by kernel_rfl) (by kernel_rfl)
      ⟨is_k, trivial⟩
      ⟨fun f s W hW hd hs hz ac hac => opv rfl rfl (by simp [go_sem]) rfl, trivial⟩ ?_
    intro f17 s17 W17 hB17
    have fB17 : Below w.heap.size w W17 := below_trans fB16 hB17.below
    have z17 : W16.heap.size ≤ W17.heap.size := hB17.below.size
    have b17_0 := blk_below b16_0 hB17.below
    have b17_1 := blk_below b16_1 hB17.below
    have b17_2 := blk_below b16_2 hB17.below
    have b17_3 := blk_below b16_3 hB17.below
    have b17_4 := blk_below b16_4 hB17.below
    have b17_5 := blk_below nb16 hB17.below
    have q130' := (q125'.below hB17.below)
    have q131' := (q126'.below hB17.below)
    have q132' := (q127'.below hB17.below)
    have q133' := (q128'.below hB17.below (Nat.le_refl _))
    have q134' := (q129'.below hB17.below (Nat.le_refl _))
    refine hK17 _ _ ?_
    generalize hg17 : ov [(18, 0)] f17 g15 = g17
    have k17_1 := kt hg17 1 k15_1
    have k17_2 := kt hg17 2 k15_2
    have k17_6 := kt hg17 6 k15_6
    have k17_7 := kt hg17 7 k15_7
    have k17_8 := kt hg17 8 k15_8
    have k17_9 := kt hg17 9 k15_9
    have k17_14 := kt hg17 14 k15_14
    have k17_16 := kt hg17 16 k15_16
    have k17_17 := kt hg17 17 k15_17
    have k17_18 := kt hg17 18 (hB17.is 0)
    refine wp_block ?_
    refine wp_loop_n (fun m_ a_ W_ => ∃ g_ : Nat → Value, a_ = fr 245 g_ ∧ (∃ j : Nat, m_ = 9 - j ∧ g_ 1 = .int .u8 wh ∧ g_ 2 = .int .u8 bn ∧ g_ 6 = .bool false ∧ g_ 7 = .pointer (some ⟨bk1, 0, none⟩) ∧ g_ 8 = .pointer (some ⟨bk2, 0, none⟩) ∧ g_ 9 = .pointer (some ⟨bk3, 0, none⟩) ∧ g_ 14 = .slice (a88') (L9.length) (c89') ∧ g_ 16 = .int .i64 ((k : Int)) ∧ g_ 17 = .pointer (some ⟨(s15 15), 0, none⟩) ∧ g_ 18 = .int .i64 ((j : Int)) ∧ Below w.heap.size w W_ ∧ W17.heap.size ≤ W_.heap.size ∧ W_.heap[bk0]? = some (.cells #[.int .u8 x.x0, .int .u8 x.x1, .int .u8 x.x2, .int .u8 x.x3, .int .u8 x.xh, .int .u8 x.y0, .int .u8 x.y1, .int .u8 x.y2, .int .u8 x.y3, .bool x.xo, .int .u8 x.ca, .int .u8 x.cb, .int .u8 x.v0, .int .u8 x.v1, .int .u8 x.v2, .int .u8 x.v3, .int .u8 x.v4] 72 (0, 0)) ∧ W_.heap[bk1]? = some (.cells #[.int .i64 b.tab, .slice (some ⟨g10', 0, none⟩) (b.panels.length) (c13'), .int .i64 b.height, .slice (some ⟨g11', 0, none⟩) (b.top.length) (c14'), .slice (some ⟨g12', 0, none⟩) (b.bottom.length) (c15'), .int .i64 b.slot, .bool b.isOpen] 24 (0, 0)) ∧ W_.heap[bk2]? = some (.cells #[.int .i64 lo, .int .i64 hi] 26 (0, 0)) ∧ W_.heap[bk3]? = some (.cells #[.int .i64 vi.length.1, .int .i64 vi.length.2, .int .i64 vi.width.1, .int .i64 vi.width.2, .int .i64 vi.height.1, .int .i64 vi.height.2, .int .i64 vi.outer.1, .int .i64 vi.outer.2, .int .i64 vi.inner.1, .int .i64 vi.inner.2, .bool vi.isOpen] 43 (0, 0)) ∧ W_.heap[bk4]? = some (.cells #[.int .i64 q1, .int .i64 q2] 26 (0, 0)) ∧ W_.heap[(s15 15)]? = some (.cells #[.int .i64 (mic b (mid3 lo hi k) 0), .int .i64 (mic b (mid3 lo hi k) 1), .int .i64 (mic b (mid3 lo hi k) 2), .int .i64 (mic b (mid3 lo hi k) 3), .int .i64 (mic b (mid3 lo hi k) 4), .int .i64 (mic b (mid3 lo hi k) 5), .int .i64 (mic b (mid3 lo hi k) 6), .int .i64 (mic b (mid3 lo hi k) 7), .int .i64 (mic b (mid3 lo hi k) 8)] 76 (0, 0)) ∧ OwnI 0 b.panels g10' c13' W_ ∧ OwnI 0 b.top g11' c14' W_ ∧ OwnI 0 b.bottom g12' c15' W_ ∧ Pp W_ a52' L.length c53' L ∧ Pp W_ a88' L9.length c89' L9 ∧ (j ≤ 9))) ⟨_, g17, rfl, 0, rfl, k17_1, k17_2, k17_6, k17_7, k17_8, k17_9, k17_14, k17_16, k17_17, k17_18.trans (by rfl), fB17, Nat.le_refl _, b17_0, b17_1, b17_2, b17_3, b17_4, b17_5, q130', q131', q132', q133', q134', (by omega)⟩ ?_
    rintro _ _ W_135 ⟨g_135, rfl, j, rfl, k_135_1, k_135_2, k_135_6, k_135_7, k_135_8, k_135_9, k_135_14, k_135_16, k_135_17, k_135_18, fB_135, z_135, b_135_0, b_135_1, b_135_2, b_135_3, b_135_4, b_135_5, q136', q137', q138', q139', q140', lp0⟩
    refine wp_seq_k fun K18 hK18 => ?_
    refine wp_seq_k fun K19 hK19 => ?_
    as_aux_lemma =>
    refine region_do 2 [(118, 0), (119, 1)] [[], [0]] (rel [is (.int .i64 ((j : Int))),
      is (.bool (decide ((j : Int) < 9)))]) (by kernel_rfl) (by kernel_rfl) (by kernel_rfl) (by kernel_rfl)
      ⟨is_k, is_k, trivial⟩
      ⟨fun f s W hW hd hs hz ac hac => opv rfl rfl (by simp [go_sem, hac.e 18 k_135_18]) rfl,
    fun f s W hW hd hs hz ac hac => opv rfl rfl (by simp [go_sem, hac.e 118 (hd 0 rfl)]) rfl, trivial⟩ ?_
    intro f18 s18 W18 hB18
    have fB18 : Below w.heap.size w W18 := below_trans fB_135 hB18.below
    have z18 : W_135.heap.size ≤ W18.heap.size := hB18.below.size
    have b18_0 := blk_below b_135_0 hB18.below
    have b18_1 := blk_below b_135_1 hB18.below
    have b18_2 := blk_below b_135_2 hB18.below
    have b18_3 := blk_below b_135_3 hB18.below
    have b18_4 := blk_below b_135_4 hB18.below
    have b18_5 := blk_below b_135_5 hB18.below
    have q141' := (q136'.below hB18.below)
    have q142' := (q137'.below hB18.below)
    have q143' := (q138'.below hB18.below)
    have q144' := (q139'.below hB18.below (Nat.le_refl _))
    have q145' := (q140'.below hB18.below (Nat.le_refl _))
    refine hK19 _ _ ?_
    generalize hg18 : ov [(118, 0), (119, 1)] f18 g_135 = g18
    have k18_1 := kt hg18 1 k_135_1
    have k18_2 := kt hg18 2 k_135_2
    have k18_6 := kt hg18 6 k_135_6
    have k18_7 := kt hg18 7 k_135_7
    have k18_8 := kt hg18 8 k_135_8
    have k18_9 := kt hg18 9 k_135_9
    have k18_14 := kt hg18 14 k_135_14
    have k18_16 := kt hg18 16 k_135_16
    have k18_17 := kt hg18 17 k_135_17
    have k18_18 := kt hg18 18 k_135_18
    have k18_119 := kt hg18 119 (hB18.is 1)
    refine wp_cond_split (t := decide ((j : Int) < 9)) ((fr_eval rfl).trans k18_119) (fun hc20 => ?_) (fun hc20 => ?_)
    ·
      have hc20' := hc20; try simp only [decide_eq_true_eq, decide_eq_false_iff_not, Bool.and_eq_true, Bool.or_eq_true, Bool.and_eq_false_iff, Bool.or_eq_false_iff, beq_iff_eq, bne_iff_ne, Bool.not_eq_true', Bool.not_eq_false', ne_eq, bne_eq_false_iff_eq, beq_eq_false_iff_ne] at hc20'
      have hj9 : j < 9 := by omega
      have hj9i : (j : Int) < 9 := by omega
      have lij := Nat.not_le.2 (show j < L9.length by omega)
      obtain ⟨bq, oq, hab⟩ := q145'.at' (by omega)
      have hmm := hmic j (mid3 lo hi k) hj9 hmid.1 hmid.2
      have hma := Int.not_lt.2 hmm.1
      have hmb := Int.not_lt.2 hmm.2
      have hM1 : (k : Int) = 1 → ((mic b (mid3 lo hi k) j) != ((nthP L9 j).1)) = false := fun e => bne_eq_false_iff_eq.2 ((show k = 1 by omega) ▸ hmh j hj9)
      have hM0 : (k : Int) = 0 → ((mic b (mid3 lo hi k) j) != ((nthP L9 j).2)) = false := fun e => bne_eq_false_iff_eq.2 ((show k = 0 by omega) ▸ hml j hj9)
      refine wp_skip ?_
      refine hK18 _ _ ?_
      refine wp_seq_k fun K21 hK21 => ?_
      refine wp_block ?_
      refine wp_seq_k fun K22 hK22 => ?_
      as_aux_lemma =>
      refine region_do 50 [(122, 0), (123, 1), (124, 2), (125, 3), (126, 4), (127, 5), (128, 6), (129, 7), (130, 8), (131, 9), (132, 10), (133, 11), (134, 12), (135, 13), (136, 14), (137, 15), (138, 16), (139, 17), (140, 18), (141, 19), (142, 20), (143, 21), (144, 22), (145, 23), (146, 24), (147, 25), (148, 26), (149, 27), (150, 28), (151, 29), (152, 30), (153, 31), (154, 32), (155, 33), (156, 34), (157, 35), (158, 36), (159, 37), (160, 38), (161, 39), (162, 40), (163, 41), (164, 42), (165, 43), (166, 44), (167, 45), (168, 46), (169, 47), (170, 48), (171, 49)] [[], [0], [0, 1], [], [], [3, 4], [3, 4, 5], [3, 4, 5, 6], [0, 1, 2, 3, 4, 5, 6, 7], [0, 1, 2, 3, 4, 5, 6, 7, 8], [0, 1, 2, 3, 4, 5, 6, 7, 8, 9], [0, 1, 2, 3, 4, 5, 6, 7, 8, 9, 10], [0, 1, 2, 3, 4, 5, 6, 7, 8, 9, 10, 11], [0, 1, 2, 3, 4, 5, 6, 7, 8, 9], [0, 1, 2, 3, 4, 5, 6, 7, 8, 9], [0, 1, 2, 3, 4, 5, 6, 7, 8, 9, 13, 14], [0, 1, 2, 3, 4, 5, 6, 7, 8, 9, 13, 14, 15], [0, 1, 2, 3, 4, 5, 6, 7, 8, 9, 13, 14, 15, 16], [0, 1, 2, 3, 4, 5, 6, 7, 8, 9, 10, 11, 12, 13, 14, 15, 16, 17], [0, 1, 2, 3, 4, 5, 6, 7, 8, 9, 10, 11, 12, 13, 14, 15, 16, 17, 18], [0, 1, 2, 3, 4, 5, 6, 7, 8, 9, 10, 11, 12, 13, 14, 15, 16, 17, 18, 19], [0, 1, 2, 3, 4, 5, 6, 7, 8, 9, 10, 11, 12, 13, 14, 15, 16, 17, 18, 19, 20], [0, 1, 2, 3, 4, 5, 6, 7, 8, 9, 10, 11, 12, 13, 14, 15, 16, 17, 18, 19, 20, 21], [0, 1, 2, 3, 4, 5, 6, 7, 8, 9, 10, 11, 12, 13, 14, 15, 16, 17, 18, 19, 20, 21, 22], [0, 1, 2, 3, 4, 5, 6, 7, 8, 9, 10, 11, 12, 13, 14, 15, 16, 17, 18, 19, 20, 21, 22, 23], [0, 1, 2, 3, 4, 5, 6, 7, 8, 9, 10, 11, 12, 13, 14, 15, 16, 17, 18, 19, 20, 21, 22, 23, 24], [0, 1, 2, 3, 4, 5, 6, 7, 8, 9, 10, 11, 12, 13, 14, 15, 16, 17, 18, 19, 20, 21, 22, 23, 24, 25], [0, 1, 2, 3, 4, 5, 6, 7, 8, 9, 10, 11, 12, 13, 14, 15, 16, 17, 18, 19, 20, 21, 22, 23], [0, 1, 2, 3, 4, 5, 6, 7, 8, 9, 10, 11, 12, 13, 14, 15, 16, 17, 18, 19, 20, 21, 22, 23], [0, 1, 2, 3, 4, 5, 6, 7, 8, 9, 10, 11, 12, 13, 14, 15, 16, 17, 18, 19, 20, 21, 22, 23, 27, 28], [0, 1, 2, 3, 4, 5, 6, 7, 8, 9, 10, 11, 12, 13, 14, 15, 16, 17, 18, 19, 20, 21, 22, 23, 27, 28, 29], [0, 1, 2, 3, 4, 5, 6, 7, 8, 9, 10, 11, 12, 13, 14, 15, 16, 17, 18, 19, 20, 21, 22, 23, 27, 28, 29, 30], [0, 1, 2, 3, 4, 5, 6, 7, 8, 9, 10, 11, 12, 13, 14, 15, 16, 17, 18, 19, 20, 21, 22, 23, 24, 25, 26, 27, 28, 29, 30, 31], [0, 1, 2, 3, 4, 5, 6, 7, 8, 9, 10, 11, 12, 13, 14, 15, 16, 17, 18, 19, 20, 21, 22, 23, 24, 25, 26, 27, 28, 29, 30, 31, 32], [0, 1, 2, 3, 4, 5, 6, 7, 8, 9, 10, 11, 12, 13, 14, 15, 16, 17, 18, 19, 20, 21, 22, 23, 24, 25, 26, 27, 28, 29, 30, 31, 32, 33], [0, 1, 2, 3, 4, 5, 6, 7, 8, 9, 10, 11, 12, 13, 14, 15, 16, 17, 18, 19, 20, 21, 22, 23, 24, 25, 26, 27, 28, 29, 30, 31, 32, 33, 34], [0, 1, 2, 3, 4, 5, 6, 7, 8, 9, 10, 11, 12, 13, 14, 15, 16, 17, 18, 19, 20, 21, 22, 23, 24, 25, 26, 27, 28, 29, 30, 31, 32, 33, 34, 35], [0, 1, 2, 3, 4, 5, 6, 7, 8, 9, 10, 11, 12, 13, 14, 15, 16, 17, 18, 19, 20, 21, 22, 23, 24, 25, 26, 27, 28, 29, 30, 31, 32, 33, 34, 35, 36], [0, 1, 2, 3, 4, 5, 6, 7, 8, 9, 10, 11, 12, 13, 14, 15, 16, 17, 18, 19, 20, 21, 22, 23, 24, 25, 26, 27, 28, 29, 30, 31, 32, 33, 34, 35, 36, 37], [0, 1, 2, 3, 4, 5, 6, 7, 8, 9, 10, 11, 12, 13, 14, 15, 16, 17, 18, 19, 20, 21, 22, 23, 24, 25, 26, 27, 28, 29, 30, 31, 32, 33, 34, 35, 36, 37, 38], [0, 1, 2, 3, 4, 5, 6, 7, 8, 9, 10, 11, 12, 13, 14, 15, 16, 17, 18, 19, 20, 21, 22, 23, 24, 25, 26, 27, 28, 29, 30, 31, 32, 33, 34, 35, 36, 37, 38, 39], [0, 1, 2, 3, 4, 5, 6, 7, 8, 9, 10, 11, 12, 13, 14, 15, 16, 17, 18, 19, 20, 21, 22, 23, 24, 25, 26, 27, 28, 29, 30, 31, 32, 33, 34, 35, 36, 37, 38, 39, 40], [0, 1, 2, 3, 4, 5, 6, 7, 8, 9, 10, 11, 12, 13, 14, 15, 16, 17, 18, 19, 20, 21, 22, 23, 24, 25, 26, 27, 28, 29, 30, 31, 32, 33, 34, 35, 36, 37, 38], [0, 1, 2, 3, 4, 5, 6, 7, 8, 9, 10, 11, 12, 13, 14, 15, 16, 17, 18, 19, 20, 21, 22, 23, 24, 25, 26, 27, 28, 29, 30, 31, 32, 33, 34, 35, 36, 37, 38], [0, 1, 2, 3, 4, 5, 6, 7, 8, 9, 10, 11, 12, 13, 14, 15, 16, 17, 18, 19, 20, 21, 22, 23, 24, 25, 26, 27, 28, 29, 30, 31, 32, 33, 34, 35, 36, 37, 38, 42, 43], [0, 1, 2, 3, 4, 5, 6, 7, 8, 9, 10, 11, 12, 13, 14, 15, 16, 17, 18, 19, 20, 21, 22, 23, 24, 25, 26, 27, 28, 29, 30, 31, 32, 33, 34, 35, 36, 37, 38, 42, 43, 44], [0, 1, 2, 3, 4, 5, 6, 7, 8, 9, 10, 11, 12, 13, 14, 15, 16, 17, 18, 19, 20, 21, 22, 23, 24, 25, 26, 27, 28, 29, 30, 31, 32, 33, 34, 35, 36, 37, 38, 42, 43, 44, 45], [0, 1, 2, 3, 4, 5, 6, 7, 8, 9, 10, 11, 12, 13, 14, 15, 16, 17, 18, 19, 20, 21, 22, 23, 24, 25, 26, 27, 28, 29, 30, 31, 32, 33, 34, 35, 36, 37, 38, 39, 40, 41, 42, 43, 44, 45, 46], [0, 1, 2, 3, 4, 5, 6, 7, 8, 9, 10, 11, 12, 13, 14, 15, 16, 17, 18, 19, 20, 21, 22, 23, 24, 25, 26, 27, 28, 29, 30, 31, 32, 33, 34, 35, 36, 37, 38, 39, 40, 41, 42, 43, 44, 45, 46, 47], [0, 1, 2, 3, 4, 5, 6, 7, 8, 9, 10, 11, 12, 13, 14, 15, 16, 17, 18, 19, 20, 21, 22, 23, 24, 25, 26, 27, 28, 29, 30, 31, 32, 33, 34, 35, 36, 37, 38, 39, 40, 41, 42, 43, 44, 45, 46, 47, 48]] (rel [is (.int .i64 ((j : Int))),
      is (.pointer (some ⟨(s15 15), j, none⟩)),
      is (.int .i64 ((mic b (mid3 lo hi k) j))),
      is (.slice (a88') (L9.length) (c89')),
      is (.int .i64 ((j : Int))),
      is (.pointer (some ⟨bq, oq + j * 2, none⟩)),
      is (.pointer (some ⟨bq, oq + j * 2, none⟩)),
      is (.int .i64 (((nthP L9 j).1))),
      is (.bool false),
      is (.bool false),
      is (.int .i64 ((j : Int))),
      is (.pointer (some ⟨(s15 15), j, none⟩)),
      is (.int .i64 ((mic b (mid3 lo hi k) j))),
      is (.slice (a88') (L9.length) (c89')),
      is (.int .i64 ((j : Int))),
      is (.pointer (some ⟨bq, oq + j * 2, none⟩)),
      is (.pointer (some ⟨bq, oq + j * 2 + 1, none⟩)),
      is (.int .i64 (((nthP L9 j).2))),
      is (.bool false),
      is (.bool false),
      is (.bool false),
      is (.int .i64 ((k : Int))),
      is (.bool ((k : Int) == 1)),
      is (.bool ((k : Int) == 1)),
      gd ((k : Int) == 1) true (is (.int .i64 ((j : Int)))),
      gd ((k : Int) == 1) true (is (.pointer (some ⟨(s15 15), j, none⟩))),
      gd ((k : Int) == 1) true (is (.int .i64 ((mic b (mid3 lo hi k) j)))),
      gd ((k : Int) == 1) true (is (.slice (a88') (L9.length) (c89'))),
      gd ((k : Int) == 1) true (is (.int .i64 ((j : Int)))),
      gd ((k : Int) == 1) true (is (.pointer (some ⟨bq, oq + j * 2, none⟩))),
      gd ((k : Int) == 1) true (is (.pointer (some ⟨bq, oq + j * 2, none⟩))),
      gd ((k : Int) == 1) true (is (.int .i64 (((nthP L9 j).1)))),
      gd ((k : Int) == 1) true (is (.bool false)),
      is (.bool false),
      is (.bool false),
      is (.bool false),
      is (.int .i64 ((k : Int))),
      is (.bool ((k : Int) == 0)),
      is (.bool ((k : Int) == 0)),
      gd ((k : Int) == 0) true (is (.int .i64 ((j : Int)))),
      gd ((k : Int) == 0) true (is (.pointer (some ⟨(s15 15), j, none⟩))),
      gd ((k : Int) == 0) true (is (.int .i64 ((mic b (mid3 lo hi k) j)))),
      gd ((k : Int) == 0) true (is (.slice (a88') (L9.length) (c89'))),
      gd ((k : Int) == 0) true (is (.int .i64 ((j : Int)))),
      gd ((k : Int) == 0) true (is (.pointer (some ⟨bq, oq + j * 2, none⟩))),
      gd ((k : Int) == 0) true (is (.pointer (some ⟨bq, oq + j * 2 + 1, none⟩))),
      gd ((k : Int) == 0) true (is (.int .i64 (((nthP L9 j).2)))),
      gd ((k : Int) == 0) true (is (.bool false)),
      is (.bool false),
      is (.bool false)]) (by kernel_rfl) (by kernel_rfl) (by kernel_rfl) (by kernel_rfl)
        ⟨is_k, is_k, is_k, is_k, is_k, is_k, is_k, is_k, is_k, is_k, is_k, is_k, is_k, is_k, is_k, is_k, is_k, is_k, is_k, is_k, is_k, is_k, is_k, is_k, gd_k (is_k), gd_k (is_k), gd_k (is_k), gd_k (is_k), gd_k (is_k), gd_k (is_k), gd_k (is_k), gd_k (is_k), gd_k (is_k), is_k, is_k, is_k, is_k, is_k, is_k, gd_k (is_k), gd_k (is_k), gd_k (is_k), gd_k (is_k), gd_k (is_k), gd_k (is_k), gd_k (is_k), gd_k (is_k), gd_k (is_k), is_k, is_k, trivial⟩
        ⟨fun f s W hW hd hs hz ac hac => opv rfl rfl (by simp [go_sem, hac.e 18 k18_18]) rfl,
    fun f s W hW hd hs hz ac hac => opv rfl rfl (by simp [go_sem, hac.e 17 k18_17, hac.e 122 (hd 0 rfl), hj9, hj9i]) rfl,
    fun f s W hW hd hs hz ac hac => by have cm := (Joins.cell_of_block (blk_below b18_5 hW) j).trans (mic_cell hj9); exact opv rfl rfl (by simp [go_sem, hac.e 123 (hd 1 rfl), cm]) rfl,
    fun f s W hW hd hs hz ac hac => opv rfl rfl (by simp [go_sem, hac.e 14 k18_14]) rfl,
    fun f s W hW hd hs hz ac hac => opv rfl rfl (by simp [go_sem, hac.e 18 k18_18]) rfl,
    fun f s W hW hd hs hz ac hac => opv rfl rfl (by simp [go_sem, hac.e 125 (hd 3 rfl), hac.e 126 (hd 4 rfl), hab, lij]) rfl,
    fun f s W hW hd hs hz ac hac => opv rfl rfl (by simp [go_sem, hac.e 127 (hd 5 rfl)]) rfl,
    fun f s W hW hd hs hz ac hac => by have cu := (pp_nth (i := j) (q145'.below hW (Nat.le_refl _)) hab (by omega)).1; exact opv rfl rfl (by simp [go_sem, hac.e 128 (hd 6 rfl), cu]) rfl,
    fun f s W hW hd hs hz ac hac => opv rfl rfl (by simp [go_sem, hac.e 124 (hd 2 rfl), hac.e 129 (hd 7 rfl), hma]) rfl,
    fun f s W hW hd hs hz ac hac => opv rfl rfl (by simp [go_sem, hac.e 130 (hd 8 rfl)]) rfl,
    fun f s W hW hd hs hz ac hac => osure rfl rfl (hac.says (d := 131) rfl rfl (hd 9 rfl)) (gv (by simp [go_sem, hac.e 18 k18_18]) rfl),
    fun f s W hW hd hs hz ac hac => osure rfl rfl (hac.says (d := 131) rfl rfl (hd 9 rfl)) (gv (by simp [go_sem, hac.e 17 k18_17, hac.e 132 (hd 10 rfl), hj9, hj9i]) rfl),
    fun f s W hW hd hs hz ac hac => osure rfl rfl (hac.says (d := 131) rfl rfl (hd 9 rfl)) (by have cm := (Joins.cell_of_block (blk_below b18_5 hW) j).trans (mic_cell hj9); exact gv (by simp [go_sem, hac.e 133 (hd 11 rfl), cm]) rfl),
    fun f s W hW hd hs hz ac hac => osure rfl rfl (hac.says (d := 131) rfl rfl (hd 9 rfl)) (gv (by simp [go_sem, hac.e 14 k18_14]) rfl),
    fun f s W hW hd hs hz ac hac => osure rfl rfl (hac.says (d := 131) rfl rfl (hd 9 rfl)) (gv (by simp [go_sem, hac.e 18 k18_18]) rfl),
    fun f s W hW hd hs hz ac hac => osure rfl rfl (hac.says (d := 131) rfl rfl (hd 9 rfl)) (gv (by simp [go_sem, hac.e 135 (hd 13 rfl), hac.e 136 (hd 14 rfl), hab, lij]) rfl),
    fun f s W hW hd hs hz ac hac => osure rfl rfl (hac.says (d := 131) rfl rfl (hd 9 rfl)) (gv (by simp [go_sem, hac.e 137 (hd 15 rfl)]) rfl),
    fun f s W hW hd hs hz ac hac => osure rfl rfl (hac.says (d := 131) rfl rfl (hd 9 rfl)) (by have cu := (pp_nth (i := j) (q145'.below hW (Nat.le_refl _)) hab (by omega)).2; exact gv (by simp [go_sem, hac.e 138 (hd 16 rfl), cu]) rfl),
    fun f s W hW hd hs hz ac hac => osure rfl rfl (hac.says (d := 131) rfl rfl (hd 9 rfl)) (gv (by simp [go_sem, hac.e 134 (hd 12 rfl), hac.e 139 (hd 17 rfl), hmb]) rfl),
    fun f s W hW hd hs hz ac hac => opk (c := false) rfl rfl (fun _ => by simp [go_sem, hac.e 131 (hd 9 rfl), hac.e 140 (hd 18 rfl)]) (fun h => absurd h (by decide)),
    fun f s W hW hd hs hz ac hac => opv rfl rfl (by simp [go_sem, hac.e 141 (hd 19 rfl)]) rfl,
    fun f s W hW hd hs hz ac hac => osure rfl rfl (hac.says (d := 142) rfl rfl (hd 20 rfl)) (gv (by simp [go_sem, hac.e 16 k18_16]) rfl),
    fun f s W hW hd hs hz ac hac => osure rfl rfl (hac.says (d := 142) rfl rfl (hd 20 rfl)) (gv (by simp [go_sem, hac.e 143 (hd 21 rfl)]) rfl),
    fun f s W hW hd hs hz ac hac => osure rfl rfl (hac.says (d := 142) rfl rfl (hd 20 rfl)) (gv (by simp [go_sem, hac.e 144 (hd 22 rfl)]) rfl),
    fun f s W hW hd hs hz ac hac => gdo rfl rfl (hac.says (d := 145) rfl rfl (hd 23 rfl)) fun hgd0 => gv (by simp [go_sem, hac.e 18 k18_18]) rfl,
    fun f s W hW hd hs hz ac hac => gdo rfl rfl (hac.says (d := 145) rfl rfl (hd 23 rfl)) fun hgd0 => gv (by simp [go_sem, hac.e 17 k18_17, hac.e 146 ((hd 24 rfl).1 hgd0), hj9, hj9i]) rfl,
    fun f s W hW hd hs hz ac hac => gdo rfl rfl (hac.says (d := 145) rfl rfl (hd 23 rfl)) fun hgd0 => by have cm := (Joins.cell_of_block (blk_below b18_5 hW) j).trans (mic_cell hj9); exact gv (by simp [go_sem, hac.e 147 ((hd 25 rfl).1 hgd0), cm]) rfl,
    fun f s W hW hd hs hz ac hac => gdo rfl rfl (hac.says (d := 145) rfl rfl (hd 23 rfl)) fun hgd0 => gv (by simp [go_sem, hac.e 14 k18_14]) rfl,
    fun f s W hW hd hs hz ac hac => gdo rfl rfl (hac.says (d := 145) rfl rfl (hd 23 rfl)) fun hgd0 => gv (by simp [go_sem, hac.e 18 k18_18]) rfl,
    fun f s W hW hd hs hz ac hac => gdo rfl rfl (hac.says (d := 145) rfl rfl (hd 23 rfl)) fun hgd0 => gv (by simp [go_sem, hac.e 149 ((hd 27 rfl).1 hgd0), hac.e 150 ((hd 28 rfl).1 hgd0), hab, lij]) rfl,
    fun f s W hW hd hs hz ac hac => gdo rfl rfl (hac.says (d := 145) rfl rfl (hd 23 rfl)) fun hgd0 => gv (by simp [go_sem, hac.e 151 ((hd 29 rfl).1 hgd0)]) rfl,
    fun f s W hW hd hs hz ac hac => gdo rfl rfl (hac.says (d := 145) rfl rfl (hd 23 rfl)) fun hgd0 => by have cu := (pp_nth (i := j) (q145'.below hW (Nat.le_refl _)) hab (by omega)).1; exact gv (by simp [go_sem, hac.e 152 ((hd 30 rfl).1 hgd0), cu]) rfl,
    fun f s W hW hd hs hz ac hac => gdo rfl rfl (hac.says (d := 145) rfl rfl (hd 23 rfl)) fun hgd0 => by have hne_ := hM1 (beq_iff_eq.1 hgd0); exact gv (by simp [go_sem, hac.e 148 ((hd 26 rfl).1 hgd0), hac.e 153 ((hd 31 rfl).1 hgd0), hne_]) rfl,
    fun f s W hW hd hs hz ac hac => osure rfl rfl (hac.says (d := 142) rfl rfl (hd 20 rfl)) (gk (c := (k : Int) == 1) (fun hpk => by first | (simp [go_sem, hpk, hac.e 145 (hd 23 rfl)]; done) | (have hpk' := hpk; simp at hpk'; simp [go_sem, hpk', hpk, hac.e 145 (hd 23 rfl)])) (fun hpk => by first | (simp [go_sem, hpk, hac.e 145 (hd 23 rfl), hac.e 154 ((hd 32 rfl).1 hpk)]; done) | (have hpk' := hpk; simp at hpk'; simp [go_sem, hpk', hpk, hac.e 145 (hd 23 rfl), hac.e 154 ((hd 32 rfl).1 hpk)]))),
    fun f s W hW hd hs hz ac hac => opk (c := false) rfl rfl (fun _ => by simp [go_sem, hac.e 142 (hd 20 rfl), hac.e 155 (hd 33 rfl)]) (fun h => absurd h (by decide)),
    fun f s W hW hd hs hz ac hac => opv rfl rfl (by simp [go_sem, hac.e 156 (hd 34 rfl)]) rfl,
    fun f s W hW hd hs hz ac hac => osure rfl rfl (hac.says (d := 157) rfl rfl (hd 35 rfl)) (gv (by simp [go_sem, hac.e 16 k18_16]) rfl),
    fun f s W hW hd hs hz ac hac => osure rfl rfl (hac.says (d := 157) rfl rfl (hd 35 rfl)) (gv (by simp [go_sem, hac.e 158 (hd 36 rfl)]) rfl),
    fun f s W hW hd hs hz ac hac => osure rfl rfl (hac.says (d := 157) rfl rfl (hd 35 rfl)) (gv (by simp [go_sem, hac.e 159 (hd 37 rfl)]) rfl),
    fun f s W hW hd hs hz ac hac => gdo rfl rfl (hac.says (d := 160) rfl rfl (hd 38 rfl)) fun hgd0 => gv (by simp [go_sem, hac.e 18 k18_18]) rfl,
    fun f s W hW hd hs hz ac hac => gdo rfl rfl (hac.says (d := 160) rfl rfl (hd 38 rfl)) fun hgd0 => gv (by simp [go_sem, hac.e 17 k18_17, hac.e 161 ((hd 39 rfl).1 hgd0), hj9, hj9i]) rfl,
    fun f s W hW hd hs hz ac hac => gdo rfl rfl (hac.says (d := 160) rfl rfl (hd 38 rfl)) fun hgd0 => by have cm := (Joins.cell_of_block (blk_below b18_5 hW) j).trans (mic_cell hj9); exact gv (by simp [go_sem, hac.e 162 ((hd 40 rfl).1 hgd0), cm]) rfl,
    fun f s W hW hd hs hz ac hac => gdo rfl rfl (hac.says (d := 160) rfl rfl (hd 38 rfl)) fun hgd0 => gv (by simp [go_sem, hac.e 14 k18_14]) rfl,
    fun f s W hW hd hs hz ac hac => gdo rfl rfl (hac.says (d := 160) rfl rfl (hd 38 rfl)) fun hgd0 => gv (by simp [go_sem, hac.e 18 k18_18]) rfl,
    fun f s W hW hd hs hz ac hac => gdo rfl rfl (hac.says (d := 160) rfl rfl (hd 38 rfl)) fun hgd0 => gv (by simp [go_sem, hac.e 164 ((hd 42 rfl).1 hgd0), hac.e 165 ((hd 43 rfl).1 hgd0), hab, lij]) rfl,
    fun f s W hW hd hs hz ac hac => gdo rfl rfl (hac.says (d := 160) rfl rfl (hd 38 rfl)) fun hgd0 => gv (by simp [go_sem, hac.e 166 ((hd 44 rfl).1 hgd0)]) rfl,
    fun f s W hW hd hs hz ac hac => gdo rfl rfl (hac.says (d := 160) rfl rfl (hd 38 rfl)) fun hgd0 => by have cu := (pp_nth (i := j) (q145'.below hW (Nat.le_refl _)) hab (by omega)).2; exact gv (by simp [go_sem, hac.e 167 ((hd 45 rfl).1 hgd0), cu]) rfl,
    fun f s W hW hd hs hz ac hac => gdo rfl rfl (hac.says (d := 160) rfl rfl (hd 38 rfl)) fun hgd0 => by have hne_ := hM0 (beq_iff_eq.1 hgd0); exact gv (by simp [go_sem, hac.e 163 ((hd 41 rfl).1 hgd0), hac.e 168 ((hd 46 rfl).1 hgd0), hne_]) rfl,
    fun f s W hW hd hs hz ac hac => osure rfl rfl (hac.says (d := 157) rfl rfl (hd 35 rfl)) (gk (c := (k : Int) == 0) (fun hpk => by first | (simp [go_sem, hpk, hac.e 160 (hd 38 rfl)]; done) | (have hpk' := hpk; simp at hpk'; simp [go_sem, hpk', hpk, hac.e 160 (hd 38 rfl)])) (fun hpk => by first | (simp [go_sem, hpk, hac.e 160 (hd 38 rfl), hac.e 169 ((hd 47 rfl).1 hpk)]; done) | (have hpk' := hpk; simp at hpk'; simp [go_sem, hpk', hpk, hac.e 160 (hd 38 rfl), hac.e 169 ((hd 47 rfl).1 hpk)]))),
    fun f s W hW hd hs hz ac hac => opk (c := false) rfl rfl (fun _ => by simp [go_sem, hac.e 157 (hd 35 rfl), hac.e 170 (hd 48 rfl)]) (fun h => absurd h (by decide)), trivial⟩ ?_
      intro f19 s19 W19 hB19
      have fB19 : Below w.heap.size w W19 := below_trans fB18 hB19.below
      have z19 : W18.heap.size ≤ W19.heap.size := hB19.below.size
      have b19_0 := blk_below b18_0 hB19.below
      have b19_1 := blk_below b18_1 hB19.below
      have b19_2 := blk_below b18_2 hB19.below
      have b19_3 := blk_below b18_3 hB19.below
      have b19_4 := blk_below b18_4 hB19.below
      have b19_5 := blk_below b18_5 hB19.below
      have q146' := (q141'.below hB19.below)
      have q147' := (q142'.below hB19.below)
      have q148' := (q143'.below hB19.below)
      have q149' := (q144'.below hB19.below (Nat.le_refl _))
      have q150' := (q145'.below hB19.below (Nat.le_refl _))
      refine hK22 _ _ ?_
      generalize hg19 : ov [(122, 0), (123, 1), (124, 2), (125, 3), (126, 4), (127, 5), (128, 6), (129, 7), (130, 8), (131, 9), (132, 10), (133, 11), (134, 12), (135, 13), (136, 14), (137, 15), (138, 16), (139, 17), (140, 18), (141, 19), (142, 20), (143, 21), (144, 22), (145, 23), (146, 24), (147, 25), (148, 26), (149, 27), (150, 28), (151, 29), (152, 30), (153, 31), (154, 32), (155, 33), (156, 34), (157, 35), (158, 36), (159, 37), (160, 38), (161, 39), (162, 40), (163, 41), (164, 42), (165, 43), (166, 44), (167, 45), (168, 46), (169, 47), (170, 48), (171, 49)] f19 g18 = g19
      have k19_1 := kt hg19 1 k18_1
      have k19_2 := kt hg19 2 k18_2
      have k19_6 := kt hg19 6 k18_6
      have k19_7 := kt hg19 7 k18_7
      have k19_8 := kt hg19 8 k18_8
      have k19_9 := kt hg19 9 k18_9
      have k19_14 := kt hg19 14 k18_14
      have k19_16 := kt hg19 16 k18_16
      have k19_17 := kt hg19 17 k18_17
      have k19_18 := kt hg19 18 k18_18
      have k19_171 := kt hg19 171 (hB19.is 49)
      refine wp_cond_false ((fr_eval rfl).trans k19_171) ?_
      refine wp_skip ?_
      refine inBlock_normal ?_
      refine hK21 _ _ ?_
      as_aux_lemma =>
      refine region_do 3 [(120, 0), (121, 1), (18, 2)] [[], [0], [0, 1]] (rel [is (.int .i64 ((j : Int))),
      is (.int .i64 ((j : Int) + 1)),
      is (.int .i64 ((j : Int) + 1))]) (by kernel_rfl) (by kernel_rfl) (by kernel_rfl) (by kernel_rfl)
        ⟨is_k, is_k, is_k, trivial⟩
        ⟨fun f s W hW hd hs hz ac hac => opv rfl rfl (by simp [go_sem, hac.e 18 ((hz 2 18 rfl rfl).trans k19_18)]) rfl,
    fun f s W hW hd hs hz ac hac => opv rfl rfl (by simp [go_sem, hac.e 120 (hd 0 rfl), IntWalk.i64_in ((j : Int) + 1) (by omega)]) rfl,
    fun f s W hW hd hs hz ac hac => opv rfl rfl (by simp [go_sem, hac.e 121 (hd 1 rfl)]) rfl, trivial⟩ ?_
      intro f20 s20 W20 hB20
      have fB20 : Below w.heap.size w W20 := below_trans fB19 hB20.below
      have z20 : W19.heap.size ≤ W20.heap.size := hB20.below.size
      have b20_0 := blk_below b19_0 hB20.below
      have b20_1 := blk_below b19_1 hB20.below
      have b20_2 := blk_below b19_2 hB20.below
      have b20_3 := blk_below b19_3 hB20.below
      have b20_4 := blk_below b19_4 hB20.below
      have b20_5 := blk_below b19_5 hB20.below
      have q151' := (q146'.below hB20.below)
      have q152' := (q147'.below hB20.below)
      have q153' := (q148'.below hB20.below)
      have q154' := (q149'.below hB20.below (Nat.le_refl _))
      have q155' := (q150'.below hB20.below (Nat.le_refl _))
      refine wpOps_end ?_
      generalize hg20 : ov [(120, 0), (121, 1), (18, 2)] f20 g19 = g20
      have k20_1 := kt hg20 1 k19_1
      have k20_2 := kt hg20 2 k19_2
      have k20_6 := kt hg20 6 k19_6
      have k20_7 := kt hg20 7 k19_7
      have k20_8 := kt hg20 8 k19_8
      have k20_9 := kt hg20 9 k19_9
      have k20_14 := kt hg20 14 k19_14
      have k20_16 := kt hg20 16 k19_16
      have k20_17 := kt hg20 17 k19_17
      have k20_18 := kt hg20 18 (hB20.is 2)
      refine then_normal ?_
      exact ⟨_, by omega, g20, rfl, j + 1, rfl, k20_1, k20_2, k20_6, k20_7, k20_8, k20_9, k20_14, k20_16, k20_17, k20_18.trans (by go_num), fB20, (by omega), b20_0, b20_1, b20_2, b20_3, b20_4, b20_5, q151', q152', q153', q154', q155', (by omega)⟩
    ·
      have hc20' := hc20; try simp only [decide_eq_true_eq, decide_eq_false_iff_not, Bool.and_eq_true, Bool.or_eq_true, Bool.and_eq_false_iff, Bool.or_eq_false_iff, beq_iff_eq, bne_iff_ne, Bool.not_eq_true', Bool.not_eq_false', ne_eq, bne_eq_false_iff_eq, beq_eq_false_iff_ne] at hc20'
      refine wp_exit ?_
      refine then_exit ?_
      refine then_exit ?_
      refine inBlock_at ?_
      refine inBlock_normal ?_
      refine hK15 _ _ ?_
      as_aux_lemma =>
      refine region_do 3 [(101, 0), (102, 1), (16, 2)] [[], [0], [0, 1]] (rel [is (.int .i64 ((k : Int))),
      is (.int .i64 ((k : Int) + 1)),
      is (.int .i64 ((k : Int) + 1))]) (by kernel_rfl) (by kernel_rfl) (by kernel_rfl) (by kernel_rfl)
        ⟨is_k, is_k, is_k, trivial⟩
        ⟨fun f s W hW hd hs hz ac hac => opv rfl rfl (by simp [go_sem, hac.e 16 ((hz 2 16 rfl rfl).trans k18_16)]) rfl,
    fun f s W hW hd hs hz ac hac => opv rfl rfl (by simp [go_sem, hac.e 101 (hd 0 rfl), IntWalk.i64_in ((k : Int) + 1) (by omega)]) rfl,
    fun f s W hW hd hs hz ac hac => opv rfl rfl (by simp [go_sem, hac.e 102 (hd 1 rfl)]) rfl, trivial⟩ ?_
      intro f21 s21 W21 hB21
      have fB21 : Below w.heap.size w W21 := below_trans fB18 hB21.below
      have z21 : W18.heap.size ≤ W21.heap.size := hB21.below.size
      have b21_0 := blk_below b18_0 hB21.below
      have b21_1 := blk_below b18_1 hB21.below
      have b21_2 := blk_below b18_2 hB21.below
      have b21_3 := blk_below b18_3 hB21.below
      have b21_4 := blk_below b18_4 hB21.below
      have b21_5 := blk_below b18_5 hB21.below
      have q156' := (q141'.below hB21.below)
      have q157' := (q142'.below hB21.below)
      have q158' := (q143'.below hB21.below)
      have q159' := (q144'.below hB21.below (Nat.le_refl _))
      have q160' := (q145'.below hB21.below (Nat.le_refl _))
      refine wpOps_end ?_
      generalize hg21 : ov [(101, 0), (102, 1), (16, 2)] f21 g18 = g21
      have k21_1 := kt hg21 1 k18_1
      have k21_2 := kt hg21 2 k18_2
      have k21_6 := kt hg21 6 k18_6
      have k21_7 := kt hg21 7 k18_7
      have k21_8 := kt hg21 8 k18_8
      have k21_9 := kt hg21 9 k18_9
      have k21_14 := kt hg21 14 k18_14
      have k21_16 := kt hg21 16 (hB21.is 2)
      refine then_normal ?_
      exact ⟨_, by omega, g21, rfl, k + 1, rfl, k21_1, k21_2, k21_6, k21_7, k21_8, k21_9, k21_14, k21_16.trans (by go_num), fB21, (by omega), b21_0, b21_1, b21_2, b21_3, b21_4, q156', q157', q158', q159', q160', (by omega)⟩
  ·
    have hc14' := hc14; try simp only [decide_eq_true_eq, decide_eq_false_iff_not, Bool.and_eq_true, Bool.or_eq_true, Bool.and_eq_false_iff, Bool.or_eq_false_iff, beq_iff_eq, bne_iff_ne, Bool.not_eq_true', Bool.not_eq_false', ne_eq, bne_eq_false_iff_eq, beq_eq_false_iff_ne] at hc14'
    refine wp_exit ?_
    refine then_exit ?_
    refine then_exit ?_
    refine inBlock_at ?_
    refine hK10 _ _ ?_
    exact folds_main_c17 x gx wh bn hwh hbn b d vi lo hi q1 q2 L L9 LW i w hbx ht hcx hto hv hkd hck hwv j1 j2 j3 hL hL0 hF hq hq1 hq2 hq3 hq4 hL9 hn9 hmic hmh hml n1 n2 n3 hix hil hpi hckw hLW hW0 hW1 hvl hvw g14 W14 bk1 bk2 bk3 a88' c89' g10' c13' g11' c14' g12' c15' a52' c53' bk0 bk4 k14_1 k14_2 k14_6 k14_7 k14_8 k14_9 fB14 b14_0 b14_1 b14_2 b14_3 b14_4 q115' q116' q117' q118' q119' (by omega) (by omega) (by omega) (by omega) (by omega) (by omega) (by omega) (by omega) (by omega) (by omega) (by omega) (by omega) (by omega) (by omega) (by omega)
end Go.Proofs.YthnediamopehfaaGreat
