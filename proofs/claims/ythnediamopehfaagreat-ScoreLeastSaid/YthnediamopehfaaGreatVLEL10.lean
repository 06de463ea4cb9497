/- Part of the proof: what the claim leans on. -/
import Derived.Test.YthnediamopehfaaGreatVLES9
set_option maxHeartbeats 60000000
set_option maxRecDepth 100000
set_option linter.unusedSimpArgs false
set_option linter.unusedVariables false
namespace Go.Proofs.YthnediamopehfaaGreat
open Go.RowKit
theorem least_main_c9 (x : Sh) (gx : ShIn x) (wh : Int) (gwh : 0 ≤ wh ∧ wh ≤ 255) (kk : Nat) (hk : wh % 10 = (kk : Int)) (hk10 : kk < 10) (b d bm bn bq : Bl) (vi : Wi) (m0 m1 m2 m3 mh t0 t1 u0 u1 ms lo hi rm rn E : Int) (LE LL : List Sp) (w : World) (hbx : shBl x = d) (ht : twinB d = b) (hcx : shCal x = (lo, hi)) (hto : b.isOpen = vi.isOpen) (hv : wishOf x b lo hi = vi) (hkd : checkErr d = 0) (hck : checkErr b = 0) (hwv : wishErr vi = 0) (j1 : 1 ≤ lo) (j2 : lo ≤ hi) (j3 : hi ≤ 10000) (hM : blankAll vi lo hi 30 = (bm, 0, 0)) (hN : blankAll vi lo ((lo + hi) / 2) 30 = (bn, 0, 0)) (hmk : checkErr bm = 0) (hnk : checkErr bn = 0) (hml : bm = ⟨30, [m0, m1, m2, m3], mh, [t0, t1], [u0, u1], ms, bm.isOpen⟩) (hmo : bm.isOpen = b.isOpen) (hm4 : ((bm.panels.length : Int) != 4) = false) (hm2 : ((bm.top.length : Int) != 2) = false) (hm3 : ((bm.bottom.length : Int) != 2) = false) (hmt : (bm.tab != 30) = false) (hn4 : ((bn.panels.length : Int) == 4) = true) (hn2 : ((bn.top.length : Int) == 2) = true) (hn3 : ((bn.bottom.length : Int) == 2) = true) (hbn : Two bn) (hbl1 : bm.panels.length = 4) (hbl2 : bm.top.length = 2) (hbl3 : bm.bottom.length = 2) (n1 : bm.panels.length ≤ 1000) (n2 : bm.top.length ≤ 1000) (n3 : bm.bottom.length ≤ 1000) (hrm : cmpB bm b = rm) (grm : ¬ 0 < rm) (hrn : cmpB bn bm = rn) (grn : rn ≤ 0) (hLE : closeL bm vi (lo, hi) = LE) (hLE0 : ((LE.length : Int) != 0) = false) (pX tX uX : Nat → Int) (hpX : ∀ i, [m0, m1, m2, m3].getD i 0 = pX i) (htX : ∀ i, [t0, t1].getD i 0 = tX i) (huX : ∀ i, [u0, u1].getD i 0 = uX i) (gp : ∀ i, 0 ≤ pX i ∧ pX i ≤ 3000) (gt : ∀ i, 0 ≤ tX i ∧ tX i ≤ 3000) (gu : ∀ i, 0 ≤ uX i ∧ uX i ≤ 3000) (gmh : 0 ≤ mh ∧ mh ≤ 3000) (gms : 0 ≤ ms ∧ ms ≤ 3000) (hq4l : bq.panels.length = 4) (hq2l : bq.top.length = 2) (hq2m : bq.bottom.length = 2) (hqt : bq.tab = 30) (hqo : bq.isOpen = bm.isOpen) (hq0 : kk < 4 → bq.panels = [m0, m1, m2, m3].set kk (pX kk - 1) ∧ bq.top = [t0, t1] ∧ bq.bottom = [u0, u1] ∧ bq.height = mh ∧ bq.slot = ms) (hq1 : 4 ≤ kk ∧ kk < 6 → bq.panels = [m0, m1, m2, m3] ∧ bq.top = [t0, t1].set (kk - 4) (tX (kk - 4) - 1) ∧ bq.bottom = [u0, u1] ∧ bq.height = mh ∧ bq.slot = ms) (hq2 : 6 ≤ kk ∧ kk < 8 → bq.panels = [m0, m1, m2, m3] ∧ bq.top = [t0, t1] ∧ bq.bottom = [u0, u1].set (kk - 6) (uX (kk - 6) - 1) ∧ bq.height = mh ∧ bq.slot = ms) (hq3 : kk = 8 → bq.panels = [m0, m1, m2, m3] ∧ bq.top = [t0, t1] ∧ bq.bottom = [u0, u1] ∧ bq.height = mh - 1 ∧ bq.slot = ms) (hq4 : kk = 9 → bq.panels = [m0, m1, m2, m3] ∧ bq.top = [t0, t1] ∧ bq.bottom = [u0, u1] ∧ bq.height = mh ∧ bq.slot = ms - 1) (hE : wishedErr bq vi [(lo, hi)] = E) (hLL : (if wishedErr bq vi [(lo, hi)] = 0 then closeL bq vi (lo, hi) else []) = LL) (hbd : (((E == 0) && ((LL.length : Int) == 0)) || ((E != 0) && (E != 2))) = false) (gq_ : Nat → Value) (Wq_ : World) (bk0 : Nat) (bk1 : Nat) (bk2 : Nat) (g34' : Nat) (c37' : Nat) (g35' : Nat) (c38' : Nat) (g36' : Nat) (c39' : Nat) (a92' : Option Addr) (c93' : Nat) (g19' : Nat) (c22' : Nat) (g20' : Nat) (c23' : Nat) (g21' : Nat) (c24' : Nat) (bk3 : Nat) (bk4 : Nat)  (k_1 : gq_ 1 = .int .u8 wh) (k_4 : gq_ 4 = .bool false) (k_6 : gq_ 6 = .pointer (some ⟨bk0, 0, none⟩)) (k_7 : gq_ 7 = .pointer (some ⟨bk1, 0, none⟩)) (k_8 : gq_ 8 = .pointer (some ⟨bk2, 0, none⟩)) (fB_ : Below w.heap.size w Wq_) (bl_0 : Wq_.heap[bk3]? = some (.cells #[.int .u8 x.x0, .int .u8 x.x1, .int .u8 x.x2, .int .u8 x.x3, .int .u8 x.xh, .int .u8 x.y0, .int .u8 x.y1, .int .u8 x.y2, .int .u8 x.y3, .bool x.xo, .int .u8 x.ca, .int .u8 x.cb, .int .u8 x.v0, .int .u8 x.v1, .int .u8 x.v2, .int .u8 x.v3, .int .u8 x.v4] 72 (0, 0))) (bl_1 : Wq_.heap[bk4]? = some (.cells #[.int .i64 b.tab, .slice (some ⟨g19', 0, none⟩) (b.panels.length) c22', .int .i64 b.height, .slice (some ⟨g20', 0, none⟩) (b.top.length) c23', .slice (some ⟨g21', 0, none⟩) (b.bottom.length) c24', .int .i64 b.slot, .bool b.isOpen] 24 (0, 0))) (bl_2 : Wq_.heap[bk0]? = some (.cells #[.int .i64 lo, .int .i64 hi] 26 (0, 0))) (bl_3 : Wq_.heap[bk1]? = some (.cells #[.int .i64 vi.length.1, .int .i64 vi.length.2, .int .i64 vi.width.1, .int .i64 vi.width.2, .int .i64 vi.height.1, .int .i64 vi.height.2, .int .i64 vi.outer.1, .int .i64 vi.outer.2, .int .i64 vi.inner.1, .int .i64 vi.inner.2, .bool vi.isOpen] 43 (0, 0))) (bl_4 : Wq_.heap[bk2]? = some (.cells #[.int .i64 bm.tab, .slice (some ⟨g34', 0, none⟩) (bm.panels.length) c37', .int .i64 bm.height, .slice (some ⟨g35', 0, none⟩) (bm.top.length) c38', .slice (some ⟨g36', 0, none⟩) (bm.bottom.length) c39', .int .i64 bm.slot, .bool bm.isOpen] 24 (0, 0))) (ft_0 : Ii Wq_ (some ⟨g34', 0, none⟩) (bm).panels.length c37' (bm).panels) (ft_1 : g34' < Wq_.heap.size) (ft_2 : Ii Wq_ (some ⟨g35', 0, none⟩) (bm).top.length c38' (bm).top) (ft_3 : g35' < Wq_.heap.size) (ft_4 : Ii Wq_ (some ⟨g36', 0, none⟩) (bm).bottom.length c39' (bm).bottom) (ft_5 : g36' < Wq_.heap.size) (lw_bk3 : w.heap.size ≤ bk3) (lw_bk4 : w.heap.size ≤ bk4) (lw_bk0 : w.heap.size ≤ bk0) (lw_bk1 : w.heap.size ≤ bk1) (lw_bk2 : w.heap.size ≤ bk2) (ne_0_1 : bk3 ≠ bk4) (ne_0_2 : bk3 ≠ bk0) (ne_1_2 : bk4 ≠ bk0) (ne_0_3 : bk3 ≠ bk1) (ne_1_3 : bk4 ≠ bk1) (ne_2_3 : bk0 ≠ bk1) (ne_0_4 : bk3 ≠ bk2) (ne_1_4 : bk4 ≠ bk2) (ne_2_4 : bk0 ≠ bk2) (ne_3_4 : bk1 ≠ bk2) :
  (tailC 7 (bodyC Tryz.f9)).wp Tryz.prog (bodyPost Tryz.prog Tryz.f9 (fun e w' => e = .returned (.bool true) ∧ Below w.heap.size w w')) (fr 207 gq_) Wq_ := by
 have lt_bk3 := ltb bl_0
 have lt_bk4 := ltb bl_1
 have lt_bk0 := ltb bl_2
 have lt_bk1 := ltb bl_3
 have lt_bk2 := ltb bl_4
 refine wp_seq_k fun K12 hK12 => ?_
 as_aux_lemma =>
 refine rz 3 [(93, 0), (94, 1), (13, 2)] [[], [0], [], [0, 1, 2]] (rel [is (.agg #[.int .i64 bm.tab, .slice (some ⟨g34', 0, none⟩) (bm.panels.length) c37', .int .i64 bm.height, .slice (some ⟨g35', 0, none⟩) (bm.top.length) c38', .slice (some ⟨g36', 0, none⟩) (bm.bottom.length) c39', .int .i64 bm.slot, .bool bm.isOpen]), fun v s W => OwBlk (s 1) (⟨30, [m0, m1, m2, m3], mh, [t0, t1], [u0, u1], ms, bm.isOpen⟩) v W, bx 2 #[.int .i64 0, .slice none 0 0, .int .i64 0, .slice none 0 0, .slice none 0 0, .int .i64 0, .bool false] 24])
  ⟨is_k, ⟨fun v k W W' hb h => h.below hb, fun v s s' W e h => by have h' : OwBlk (s 1) (⟨30, [m0, m1, m2, m3], mh, [t0, t1], [u0, u1], ms, bm.isOpen⟩) v W := h; show OwBlk (s' 1) (⟨30, [m0, m1, m2, m3], mh, [t0, t1], [u0, u1], ms, bm.isOpen⟩) v W; rw [← e 1 (by simp)]; exact h'⟩, bx_k, trivial⟩
  ⟨fun f s W g j l m n a => opl rfl rfl rfl (a.v 8 k_8) (bwb bl_4 g) Tryz.underlying24 rfl (by kernel_rfl) rfl,
  fun f s W g j l m n a => opd (args := #[.agg #[.int .i64 bm.tab, .slice (some ⟨g34', 0, none⟩) (bm.panels.length) c37', .int .i64 bm.height, .slice (some ⟨g35', 0, none⟩) (bm.top.length) c38', .slice (some ⟨g36', 0, none⟩) (bm.bottom.length) c39', .int .i64 bm.slot, .bool bm.isOpen]]) rfl rfl (by simp [go_sem, a.e 93 (j 0 rfl)]) (own_lit hml _ _ _ _ _ _ W ((ft_0.below g (Nat.le_refl _))) ((ft_2.below g (Nat.le_refl _))) ((ft_4.below g (Nat.le_refl _)))) (fun e W' h => by obtain ⟨v, e1, h1, h2⟩ := h; exact ⟨v, e1, h2, (show OwBlk (upd s 1 W.heap.size 1) (⟨30, [m0, m1, m2, m3], mh, [t0, t1], [u0, u1], ms, bm.isOpen⟩) v W' from by rw [upd_at]; exact h1)⟩),
  fun f s W g j l m n a => opb rfl rfl (by simp [go_sem]), trivial⟩ ?_
 intro f13 s13 W13 hB13 g13 hg13 z13
 have fB13 := hB13.f fB_
 have b13_0 := hB13.b bl_0
 have b13_1 := hB13.b bl_1
 have b13_2 := hB13.b bl_2
 have b13_3 := hB13.b bl_3
 have b13_4 := hB13.b bl_4
 have q103' := (ft_0.bw hB13)
 have q104' := (hB13.lt ft_1)
 have q105' := (ft_2.bw hB13)
 have q106' := (hB13.lt ft_3)
 have q107' := (ft_4.bw hB13)
 have q108' := (hB13.lt ft_5)
 obtain ⟨g109', c112', g110', c113', g111', c114', r13_1, q115', q116', q117', q118', q119', q120'⟩ := hB13.is 1
 have la13_1 := hB13.from' 1 (by decide)
 have lo13_1_o0 := q115'.lim
 have q121' := q115'.low (B' := w.heap.size) (Nat.le_trans fB_.size (la13_1))
 have lo13_1_o1 := q116'.lim
 have q122' := q116'.low (B' := w.heap.size) (Nat.le_trans fB_.size (la13_1))
 have lo13_1_o2 := q117'.lim
 have q123' := q117'.low (B' := w.heap.size) (Nat.le_trans fB_.size (la13_1))
 obtain ⟨r13_2, br13_2⟩ := hB13.is 2
 have lr13_2 := hB13.lr 2 br13_2
 have oo13_1_o0_2 := hB13.off 1 2 (by decide) (by decide) (by decide) lo13_1_o0.1 (fun W h => (OwBlk.lt h r13_1).1) (fun _ _ _ h => ltb h.2)
 have oo13_1_o1_2 := hB13.off 1 2 (by decide) (by decide) (by decide) lo13_1_o1.1 (fun W h => (OwBlk.lt h r13_1).2.1) (fun _ _ _ h => ltb h.2)
 have oo13_1_o2_2 := hB13.off 1 2 (by decide) (by decide) (by decide) lo13_1_o2.1 (fun W h => (OwBlk.lt h r13_1).2.2) (fun _ _ _ h => ltb h.2)
 have k13_1 := kt hg13 1 k_1
 have k13_94 := kt hg13 94 r13_1
 have k13_13 := kt hg13 13 r13_2
 obtain ⟨W14, hW14⟩ : ∃ W', W' = W13.setRow (s13 2) #[.int .i64 30, .slice (some ⟨g109', 0, none⟩) 4 c112', .int .i64 mh, .slice (some ⟨g110', 0, none⟩) 2 c113', .slice (some ⟨g111', 0, none⟩) 2 c114', .int .i64 ms, .bool bm.isOpen] := ⟨_, rfl⟩
 refine tsk (o := _) rfl ⟨rfl, rfl⟩ (run_seg hW14 (fr_ev k13_13) (fr_ev k13_94) br13_2 rfl rfl rfl rfl) ?_
 obtain ⟨fB14, nb14, ot14, z14⟩ := sgf hW14 fB13 br13_2 (by omega)
 clear hW14
 have b14_0 := ot14 _ _ nea b13_0
 have b14_1 := ot14 _ _ nea b13_1
 have b14_2 := ot14 _ _ nea b13_2
 have b14_3 := ot14 _ _ nea b13_3
 have b14_4 := ot14 _ _ nea b13_4
 have q124' := (q103'.other ot14 q104' (by omega) z14)
 have q125' := Nat.lt_of_lt_of_le q104' z14
 have q126' := (q105'.other ot14 q106' (by omega) z14)
 have q127' := Nat.lt_of_lt_of_le q106' z14
 have q128' := (q107'.other ot14 q108' (by omega) z14)
 have q129' := Nat.lt_of_lt_of_le q108' z14
 have q130' := q121'.other ot14 nea z14
 have q131' := q122'.other ot14 nea z14
 have q132' := q123'.other ot14 nea z14
 refine wpe ?_
 refine hK12 _ _ ?_
 refine wp_seq_k fun K13 hK13 => ?_
 suffices J133' : ∀ (g_ : Nat → Value) (W_ : World), (g_ 1 = .int .u8 wh ∧ g_ 4 = .bool false ∧ g_ 6 = .pointer (some ⟨bk0, 0, none⟩) ∧ g_ 7 = .pointer (some ⟨bk1, 0, none⟩) ∧ g_ 8 = .pointer (some ⟨bk2, 0, none⟩) ∧ g_ 13 = .pointer (some ⟨(s13 2), 0, none⟩) ∧ Below w.heap.size w W_ ∧ W14.heap.size ≤ W_.heap.size ∧ W_.heap[bk3]? = some (.cells #[.int .u8 x.x0, .int .u8 x.x1, .int .u8 x.x2, .int .u8 x.x3, .int .u8 x.xh, .int .u8 x.y0, .int .u8 x.y1, .int .u8 x.y2, .int .u8 x.y3, .bool x.xo, .int .u8 x.ca, .int .u8 x.cb, .int .u8 x.v0, .int .u8 x.v1, .int .u8 x.v2, .int .u8 x.v3, .int .u8 x.v4] 72 (0, 0)) ∧ W_.heap[bk4]? = some (.cells #[.int .i64 b.tab, .slice (some ⟨g19', 0, none⟩) (b.panels.length) c22', .int .i64 b.height, .slice (some ⟨g20', 0, none⟩) (b.top.length) c23', .slice (some ⟨g21', 0, none⟩) (b.bottom.length) c24', .int .i64 b.slot, .bool b.isOpen] 24 (0, 0)) ∧ W_.heap[bk0]? = some (.cells #[.int .i64 lo, .int .i64 hi] 26 (0, 0)) ∧ W_.heap[bk1]? = some (.cells #[.int .i64 vi.length.1, .int .i64 vi.length.2, .int .i64 vi.width.1, .int .i64 vi.width.2, .int .i64 vi.height.1, .int .i64 vi.height.2, .int .i64 vi.outer.1, .int .i64 vi.outer.2, .int .i64 vi.inner.1, .int .i64 vi.inner.2, .bool vi.isOpen] 43 (0, 0)) ∧ W_.heap[bk2]? = some (.cells #[.int .i64 bm.tab, .slice (some ⟨g34', 0, none⟩) (bm.panels.length) c37', .int .i64 bm.height, .slice (some ⟨g35', 0, none⟩) (bm.top.length) c38', .slice (some ⟨g36', 0, none⟩) (bm.bottom.length) c39', .int .i64 bm.slot, .bool bm.isOpen] 24 (0, 0)) ∧ W_.heap[(s13 2)]? = some (.cells #[.int .i64 bq.tab, .slice (some ⟨g109', 0, none⟩) (bq.panels.length) c112', .int .i64 bq.height, .slice (some ⟨g110', 0, none⟩) (bq.top.length) c113', .slice (some ⟨g111', 0, none⟩) (bq.bottom.length) c114', .int .i64 bq.slot, .bool bq.isOpen] 24 (0, 0)) ∧ Ii W_ (some ⟨g34', 0, none⟩) (bm).panels.length c37' (bm).panels ∧ g34' < W_.heap.size ∧ Ii W_ (some ⟨g35', 0, none⟩) (bm).top.length c38' (bm).top ∧ g35' < W_.heap.size ∧ Ii W_ (some ⟨g36', 0, none⟩) (bm).bottom.length c39' (bm).bottom ∧ g36' < W_.heap.size ∧ OwnI w.heap.size (bq.panels) g109' c112' W_ ∧ OwnI w.heap.size (bq.top) g110' c113' W_ ∧ OwnI w.heap.size (bq.bottom) g111' c114' W_) → K13 (fr 207 g_) W_ by
  refine wp_seq_k fun K14 hK14 => ?_
  as_aux_lemma =>
  refine ry 4 [(95, 0), (96, 1), (97, 2), (14, 3)] [[], [0], [1], [2]] (rel [is (.int .u8 wh), iI wh, iI ((kk : Int)), iI ((kk : Int))])
   ⟨fun f s W g j l m n a => opm (a.v 1 k13_1),
  fun f s W g j l m n a => by have cv_ := IntWalk.i64_in wh (by omega); exact opv rfl rfl (by simp [go_sem, a.e 95 (j 0 rfl), cv_]) rfl,
  fun f s W g j l m n a => by have qu_ : (wh).tmod 10 = (kk : Int) := (Int.tmod_eq_emod_of_nonneg (by omega)).trans hk; have qw_ := IntWalk.i64_in (kk : Int) (by omega); exact opv rfl rfl (by simp [go_sem, a.e 96 (j 1 rfl), qu_, qw_]) rfl,
  fun f s W g j l m n a => opm (a.v 97 (j 2 rfl)), trivial⟩ ?_
  intro f15 s15 W15 hB15 g15 hg15 z15
  have q134' := (q124'.bw hB15)
  have q135' := (hB15.lt q125')
  have q136' := (q126'.bw hB15)
  have q137' := (hB15.lt q127')
  have q138' := (q128'.bw hB15)
  have q139' := (hB15.lt q129')
  have q140' := (q130'.below hB15.below)
  have q141' := (q131'.below hB15.below)
  have q142' := (q132'.below hB15.below)
  refine hK14 _ _ ?_
  have k15_14 := kt hg15 14 (hB15.is 3)
  refine wp_block ?_
  refine wp_seq_k fun K15 hK15 => ?_
  as_aux_lemma =>
  refine ry 3 [(103, 0), (104, 1), (102, 2)] [[], [0], [1]] (rel [iI ((kk : Int)), iB (decide ((kk : Int) < 4)), iB (decide ((kk : Int) < 4))])
   ⟨fun f s W g j l m n a => opm (a.v 14 k15_14),
  fun f s W g j l m n a => opv rfl rfl (by simp [go_sem, a.e 103 (j 0 rfl)]) rfl,
  fun f s W g j l m n a => opm (a.v 104 (j 1 rfl)), trivial⟩ ?_
  intro f16 s16 W16 hB16 g16 hg16 z16
  have fB16 := hB16.f (hB15.f fB14)
  have b16_0 := hB16.b (hB15.b b14_0)
  have b16_1 := hB16.b (hB15.b b14_1)
  have b16_2 := hB16.b (hB15.b b14_2)
  have b16_3 := hB16.b (hB15.b b14_3)
  have b16_4 := hB16.b (hB15.b b14_4)
  have b16_5 := hB16.b (hB15.b nb14)
  have q143' := (q134'.bw hB16)
  have q144' := (hB16.lt q135')
  have q145' := (q136'.bw hB16)
  have q146' := (hB16.lt q137')
  have q147' := (q138'.bw hB16)
  have q148' := (hB16.lt q139')
  have q149' := (q140'.below hB16.below)
  have q150' := (q141'.below hB16.below)
  have q151' := (q142'.below hB16.below)
  refine hK15 _ _ ?_
  have k16_1 := kt hg16 1 (kt hg15 1 k13_1)
  have k16_4 := kt hg16 4 (kt hg15 4 (kt hg13 4 k_4))
  have k16_6 := kt hg16 6 (kt hg15 6 (kt hg13 6 k_6))
  have k16_7 := kt hg16 7 (kt hg15 7 (kt hg13 7 k_7))
  have k16_8 := kt hg16 8 (kt hg15 8 (kt hg13 8 k_8))
  have k16_13 := kt hg16 13 (kt hg15 13 k13_13)
  have k16_14 := kt hg16 14 k15_14
  have k16_102 := kt hg16 102 (hB16.is 2)
  refine wp_cond_split (t := decide ((kk : Int) < 4)) ((fr_eval rfl).trans k16_102) (fun hc16 => ?_) (fun hc16 => ?_)
  ·
   have hc16' := hc16; try simp only [ba] at hc16'
   obtain ⟨ea, eb, ec, ed, ee⟩ := hq0 (by omega)
   have gl_ := gp kk
   have hk4n : kk < 4 := by omega
   have hk4i : (kk : Int) < 4 := by omega
   have hk4l := Nat.not_le.2 hk4n
   as_aux_lemma =>
   refine ry 7 [(105, 0), (106, 1), (107, 2), (108, 3), (109, 4), (110, 5), (111, 6)] [[], [0], [], [1, 2], [3], [4], [1, 2], [0, 1, 2, 3, 4, 5, 6]] (rel [is (.pointer (some ⟨(s13 2), 1, none⟩)), is (.slice (some ⟨g109', 0, none⟩) 4 c112'), iI ((kk : Int)), is (.pointer (some ⟨g109', kk, none⟩)), iI ((pX kk)), iI ((pX kk) - 1), is (.pointer (some ⟨g109', kk, none⟩))])
    ⟨fun f s W g j l m n a => opv rfl rfl (by simp [go_sem, a.e 13 k16_13]) rfl,
  fun f s W g j l m n a => opv rfl rfl (by simp [go_sem, a.e 105 (j 0 rfl), cb b16_5 g 1]) rfl,
  fun f s W g j l m n a => opm (a.v 14 k16_14),
  fun f s W g j l m n a => opv rfl rfl (by simp [go_sem, a.e 106 (j 1 rfl), a.e 107 (j 2 rfl), hk4l, hk4n, hk4i]) rfl,
  fun f s W g j l m n a => by have u4_ : W.cell? ⟨g109', kk, none⟩ = some (.int .i64 ((pX kk))) := ((OwnI.cell ((q149'.below g)) (i := kk) (by show kk < 4; omega)).trans (by rw [hpX])); exact opv rfl rfl (by simp [go_sem, a.e 108 (j 3 rfl), u4_]) rfl,
  fun f s W g j l m n a => opv rfl rfl (by simp [go_sem, a.e 109 (j 4 rfl), IntWalk.i64_in ((pX kk) - 1) (by omega)]) rfl,
  fun f s W g j l m n a => opv rfl rfl (by simp [go_sem, a.e 106 (j 1 rfl), a.e 107 (j 2 rfl), hk4l, hk4n, hk4i]) rfl, trivial⟩ ?_
   intro f17 s17 W17 hB17 g17 hg17 z17
   have fB17 := hB17.f fB16
   have b17_0 := hB17.b b16_0
   have b17_1 := hB17.b b16_1
   have b17_2 := hB17.b b16_2
   have b17_3 := hB17.b b16_3
   have b17_4 := hB17.b b16_4
   have b17_5 := hB17.b b16_5
   have q152' := (q143'.bw hB17)
   have q153' := (hB17.lt q144')
   have q154' := (q145'.bw hB17)
   have q155' := (hB17.lt q146')
   have q156' := (q147'.bw hB17)
   have q157' := (hB17.lt q148')
   have q158' := (q149'.below hB17.below)
   have q159' := (q150'.below hB17.below)
   have q160' := (q151'.below hB17.below)
   have k17_1 := kt hg17 1 k16_1
   have k17_4 := kt hg17 4 k16_4
   have k17_6 := kt hg17 6 k16_6
   have k17_7 := kt hg17 7 k16_7
   have k17_8 := kt hg17 8 k16_8
   have k17_13 := kt hg17 13 k16_13
   have k17_110 := kt hg17 110 (hB17.is 5)
   have k17_111 := kt hg17 111 (hB17.is 6)
   obtain ⟨W18, st18, ow18, ot18, z18, fB18⟩ := storeI_tail (c := c112') (i := kk) (x := (pX kk) - 1) (([m0, m1, m2, m3]).set kk ((pX kk) - 1)) (by show kk < 4; omega) rfl fB17 q158'
   refine tsk (o := _) rfl ⟨rfl, rfl⟩ (st18 (fr_ev k17_111) (fr_ev k17_110)) ?_
   have b18_0 := ot18 _ _ nea b17_0
   have b18_1 := ot18 _ _ nea b17_1
   have b18_2 := ot18 _ _ nea b17_2
   have b18_3 := ot18 _ _ nea b17_3
   have b18_4 := ot18 _ _ nea b17_4
   have b18_5 := ot18 _ _ nea b17_5
   have q161' := (q152'.other ot18 q153' (by omega) z18)
   have q162' := Nat.lt_of_lt_of_le q153' z18
   have q163' := (q154'.other ot18 q155' (by omega) z18)
   have q164' := Nat.lt_of_lt_of_le q155' z18
   have q165' := (q156'.other ot18 q157' (by omega) z18)
   have q166' := Nat.lt_of_lt_of_le q157' z18
   have q167' := q159'.other ot18 nea z18
   have q168' := q160'.other ot18 nea z18
   refine wpe ?_
   refine ibn ?_
   exact J133' _ _ ⟨k17_1, k17_4, k17_6, k17_7, k17_8, k17_13, fB18, (by omega), b18_0, b18_1, b18_2, b18_3, b18_4, (by rw [hq4l, hq2l, hq2m, hqt, hqo, ed, ee]; exact b18_5), q161', q162', q163', q164', q165', q166', (by rw [ea]; exact ow18), (by rw [eb]; exact q167'), (by rw [ec]; exact q168')⟩
  ·
   have hc16' := hc16; try simp only [ba] at hc16'
   refine wp_seq_k fun K17 hK17 => ?_
   as_aux_lemma =>
   refine ry 3 [(113, 0), (114, 1), (112, 2)] [[], [0], [1]] (rel [iI ((kk : Int)), iB (decide ((kk : Int) < 6)), iB (decide ((kk : Int) < 6))])
    ⟨fun f s W g j l m n a => opm (a.v 14 k16_14),
  fun f s W g j l m n a => opv rfl rfl (by simp [go_sem, a.e 113 (j 0 rfl)]) rfl,
  fun f s W g j l m n a => opm (a.v 114 (j 1 rfl)), trivial⟩ ?_
   intro f19 s19 W19 hB19 g19 hg19 z19
   have fB19 := hB19.f fB16
   have b19_0 := hB19.b b16_0
   have b19_1 := hB19.b b16_1
   have b19_2 := hB19.b b16_2
   have b19_3 := hB19.b b16_3
   have b19_4 := hB19.b b16_4
   have b19_5 := hB19.b b16_5
   have q169' := (q143'.bw hB19)
   have q170' := (hB19.lt q144')
   have q171' := (q145'.bw hB19)
   have q172' := (hB19.lt q146')
   have q173' := (q147'.bw hB19)
   have q174' := (hB19.lt q148')
   have q175' := (q149'.below hB19.below)
   have q176' := (q150'.below hB19.below)
   have q177' := (q151'.below hB19.below)
   refine hK17 _ _ ?_
   have k19_1 := kt hg19 1 k16_1
   have k19_4 := kt hg19 4 k16_4
   have k19_6 := kt hg19 6 k16_6
   have k19_7 := kt hg19 7 k16_7
   have k19_8 := kt hg19 8 k16_8
   have k19_13 := kt hg19 13 k16_13
   have k19_14 := kt hg19 14 k16_14
   have k19_112 := kt hg19 112 (hB19.is 2)
   refine wp_cond_split (t := decide ((kk : Int) < 6)) ((fr_eval rfl).trans k19_112) (fun hc18 => ?_) (fun hc18 => ?_)
   ·
    have hc18' := hc18; try simp only [ba] at hc18'
    obtain ⟨ea, eb, ec, ed, ee⟩ := hq1 (by omega)
    have gl_ := gt (kk - 4)
    have hk4n : kk - 4 < 2 := by omega
    have hk4l := Nat.not_le.2 hk4n
    have hk4j : ¬ (2 : Int) ≤ ((kk - 4 : Nat) : Int) := by omega
    as_aux_lemma =>
    refine ry 8 [(115, 0), (116, 1), (117, 2), (118, 3), (119, 4), (120, 5), (121, 6), (122, 7)] [[], [0], [], [2], [1, 3], [4], [5], [1, 3], [0, 1, 2, 3, 4, 5, 6, 7]] (rel [is (.pointer (some ⟨(s13 2), 3, none⟩)), is (.slice (some ⟨g110', 0, none⟩) 2 c113'), iI ((kk : Int)), iI ((kk : Int) - 4), is (.pointer (some ⟨g110', kk - 4, none⟩)), iI ((tX (kk - 4))), iI ((tX (kk - 4)) - 1), is (.pointer (some ⟨g110', kk - 4, none⟩))])
     ⟨fun f s W g j l m n a => opv rfl rfl (by simp [go_sem, a.e 13 k19_13]) rfl,
  fun f s W g j l m n a => opv rfl rfl (by simp [go_sem, a.e 115 (j 0 rfl), cb b19_5 g 3]) rfl,
  fun f s W g j l m n a => opm (a.v 14 k19_14),
  fun f s W g j l m n a => opv rfl rfl (by simp [go_sem, a.e 117 (j 2 rfl), IntWalk.i64_in ((kk : Int) - 4) (by omega)]) rfl,
  fun f s W g j l m n a => by have hi1_ : (kk : Int) - 4 = ((kk - 4 : Nat) : Int) := (by omega); exact opv rfl rfl (by simp [go_sem, a.e 116 (j 1 rfl), a.e 118 (j 3 rfl), hi1_, hk4l, hk4n, hk4j]) rfl,
  fun f s W g j l m n a => by have u5_ : W.cell? ⟨g110', kk - 4, none⟩ = some (.int .i64 ((tX (kk - 4)))) := ((OwnI.cell ((q176'.below g)) (i := kk - 4) (by show kk - 4 < 2; omega)).trans (by rw [htX])); exact opv rfl rfl (by simp [go_sem, a.e 119 (j 4 rfl), u5_]) rfl,
  fun f s W g j l m n a => opv rfl rfl (by simp [go_sem, a.e 120 (j 5 rfl), IntWalk.i64_in ((tX (kk - 4)) - 1) (by omega)]) rfl,
  fun f s W g j l m n a => by have hi1_ : (kk : Int) - 4 = ((kk - 4 : Nat) : Int) := (by omega); exact opv rfl rfl (by simp [go_sem, a.e 116 (j 1 rfl), a.e 118 (j 3 rfl), hi1_, hk4l, hk4n, hk4j]) rfl, trivial⟩ ?_
    intro f20 s20 W20 hB20 g20 hg20 z20
    have fB20 := hB20.f fB19
    have b20_0 := hB20.b b19_0
    have b20_1 := hB20.b b19_1
    have b20_2 := hB20.b b19_2
    have b20_3 := hB20.b b19_3
    have b20_4 := hB20.b b19_4
    have b20_5 := hB20.b b19_5
    have q178' := (q169'.bw hB20)
    have q179' := (hB20.lt q170')
    have q180' := (q171'.bw hB20)
    have q181' := (hB20.lt q172')
    have q182' := (q173'.bw hB20)
    have q183' := (hB20.lt q174')
    have q184' := (q175'.below hB20.below)
    have q185' := (q176'.below hB20.below)
    have q186' := (q177'.below hB20.below)
    have k20_1 := kt hg20 1 k19_1
    have k20_4 := kt hg20 4 k19_4
    have k20_6 := kt hg20 6 k19_6
    have k20_7 := kt hg20 7 k19_7
    have k20_8 := kt hg20 8 k19_8
    have k20_13 := kt hg20 13 k19_13
    have k20_121 := kt hg20 121 (hB20.is 6)
    have k20_122 := kt hg20 122 (hB20.is 7)
    obtain ⟨W21, st21, ow21, ot21, z21, fB21⟩ := storeI_tail (c := c113') (i := kk - 4) (x := (tX (kk - 4)) - 1) (([t0, t1]).set (kk - 4) ((tX (kk - 4)) - 1)) (by show kk - 4 < 2; omega) rfl fB20 q185'
    refine tsk (o := _) rfl ⟨rfl, rfl⟩ (st21 (fr_ev k20_122) (fr_ev k20_121)) ?_
    have b21_0 := ot21 _ _ nea b20_0
    have b21_1 := ot21 _ _ nea b20_1
    have b21_2 := ot21 _ _ nea b20_2
    have b21_3 := ot21 _ _ nea b20_3
    have b21_4 := ot21 _ _ nea b20_4
    have b21_5 := ot21 _ _ nea b20_5
    have q187' := (q178'.other ot21 q179' (by omega) z21)
    have q188' := Nat.lt_of_lt_of_le q179' z21
    have q189' := (q180'.other ot21 q181' (by omega) z21)
    have q190' := Nat.lt_of_lt_of_le q181' z21
    have q191' := (q182'.other ot21 q183' (by omega) z21)
    have q192' := Nat.lt_of_lt_of_le q183' z21
    have q193' := q184'.other ot21 nea z21
    have q194' := q186'.other ot21 nea z21
    refine wpe ?_
    refine ibn ?_
    exact J133' _ _ ⟨k20_1, k20_4, k20_6, k20_7, k20_8, k20_13, fB21, (by omega), b21_0, b21_1, b21_2, b21_3, b21_4, (by rw [hq4l, hq2l, hq2m, hqt, hqo, ed, ee]; exact b21_5), q187', q188', q189', q190', q191', q192', (by rw [ea]; exact q193'), (by rw [eb]; exact ow21), (by rw [ec]; exact q194')⟩
   ·
    have hc18' := hc18; try simp only [ba] at hc18'
    refine wp_seq_k fun K19 hK19 => ?_
    as_aux_lemma =>
    refine ry 3 [(124, 0), (125, 1), (123, 2)] [[], [0], [1]] (rel [iI ((kk : Int)), iB (decide ((kk : Int) < 8)), iB (decide ((kk : Int) < 8))])
     ⟨fun f s W g j l m n a => opm (a.v 14 k19_14),
  fun f s W g j l m n a => opv rfl rfl (by simp [go_sem, a.e 124 (j 0 rfl)]) rfl,
  fun f s W g j l m n a => opm (a.v 125 (j 1 rfl)), trivial⟩ ?_
    intro f22 s22 W22 hB22 g22 hg22 z22
    have fB22 := hB22.f fB19
    have b22_0 := hB22.b b19_0
    have b22_1 := hB22.b b19_1
    have b22_2 := hB22.b b19_2
    have b22_3 := hB22.b b19_3
    have b22_4 := hB22.b b19_4
    have b22_5 := hB22.b b19_5
    have q195' := (q169'.bw hB22)
    have q196' := (hB22.lt q170')
    have q197' := (q171'.bw hB22)
    have q198' := (hB22.lt q172')
    have q199' := (q173'.bw hB22)
    have q200' := (hB22.lt q174')
    have q201' := (q175'.below hB22.below)
    have q202' := (q176'.below hB22.below)
    have q203' := (q177'.below hB22.below)
    refine hK19 _ _ ?_
    have k22_1 := kt hg22 1 k19_1
    have k22_4 := kt hg22 4 k19_4
    have k22_6 := kt hg22 6 k19_6
    have k22_7 := kt hg22 7 k19_7
    have k22_8 := kt hg22 8 k19_8
    have k22_13 := kt hg22 13 k19_13
    have k22_14 := kt hg22 14 k19_14
    have k22_123 := kt hg22 123 (hB22.is 2)
    refine wp_cond_split (t := decide ((kk : Int) < 8)) ((fr_eval rfl).trans k22_123) (fun hc20 => ?_) (fun hc20 => ?_)
    ·
     have hc20' := hc20; try simp only [ba] at hc20'
     obtain ⟨ea, eb, ec, ed, ee⟩ := hq2 (by omega)
     have gl_ := gu (kk - 6)
     have hk4n : kk - 6 < 2 := by omega
     have hk4l := Nat.not_le.2 hk4n
     have hk4j : ¬ (2 : Int) ≤ ((kk - 6 : Nat) : Int) := by omega
     as_aux_lemma =>
     refine ry 8 [(126, 0), (127, 1), (128, 2), (129, 3), (130, 4), (131, 5), (132, 6), (133, 7)] [[], [0], [], [2], [1, 3], [4], [5], [1, 3], [0, 1, 2, 3, 4, 5, 6, 7]] (rel [is (.pointer (some ⟨(s13 2), 4, none⟩)), is (.slice (some ⟨g111', 0, none⟩) 2 c114'), iI ((kk : Int)), iI ((kk : Int) - 6), is (.pointer (some ⟨g111', kk - 6, none⟩)), iI ((uX (kk - 6))), iI ((uX (kk - 6)) - 1), is (.pointer (some ⟨g111', kk - 6, none⟩))])
      ⟨fun f s W g j l m n a => opv rfl rfl (by simp [go_sem, a.e 13 k22_13]) rfl,
  fun f s W g j l m n a => opv rfl rfl (by simp [go_sem, a.e 126 (j 0 rfl), cb b22_5 g 4]) rfl,
  fun f s W g j l m n a => opm (a.v 14 k22_14),
  fun f s W g j l m n a => opv rfl rfl (by simp [go_sem, a.e 128 (j 2 rfl), IntWalk.i64_in ((kk : Int) - 6) (by omega)]) rfl,
  fun f s W g j l m n a => by have hi1_ : (kk : Int) - 6 = ((kk - 6 : Nat) : Int) := (by omega); exact opv rfl rfl (by simp [go_sem, a.e 127 (j 1 rfl), a.e 129 (j 3 rfl), hi1_, hk4l, hk4n, hk4j]) rfl,
  fun f s W g j l m n a => by have u5_ : W.cell? ⟨g111', kk - 6, none⟩ = some (.int .i64 ((uX (kk - 6)))) := ((OwnI.cell ((q203'.below g)) (i := kk - 6) (by show kk - 6 < 2; omega)).trans (by rw [huX])); exact opv rfl rfl (by simp [go_sem, a.e 130 (j 4 rfl), u5_]) rfl,
  fun f s W g j l m n a => opv rfl rfl (by simp [go_sem, a.e 131 (j 5 rfl), IntWalk.i64_in ((uX (kk - 6)) - 1) (by omega)]) rfl,
  fun f s W g j l m n a => by have hi1_ : (kk : Int) - 6 = ((kk - 6 : Nat) : Int) := (by omega); exact opv rfl rfl (by simp [go_sem, a.e 127 (j 1 rfl), a.e 129 (j 3 rfl), hi1_, hk4l, hk4n, hk4j]) rfl, trivial⟩ ?_
     intro f23 s23 W23 hB23 g23 hg23 z23
     have fB23 := hB23.f fB22
     have b23_0 := hB23.b b22_0
     have b23_1 := hB23.b b22_1
     have b23_2 := hB23.b b22_2
     have b23_3 := hB23.b b22_3
     have b23_4 := hB23.b b22_4
     have b23_5 := hB23.b b22_5
     have q204' := (q195'.bw hB23)
     have q205' := (hB23.lt q196')
     have q206' := (q197'.bw hB23)
     have q207' := (hB23.lt q198')
     have q208' := (q199'.bw hB23)
     have q209' := (hB23.lt q200')
     have q210' := (q201'.below hB23.below)
     have q211' := (q202'.below hB23.below)
     have q212' := (q203'.below hB23.below)
     have k23_1 := kt hg23 1 k22_1
     have k23_4 := kt hg23 4 k22_4
     have k23_6 := kt hg23 6 k22_6
     have k23_7 := kt hg23 7 k22_7
     have k23_8 := kt hg23 8 k22_8
     have k23_13 := kt hg23 13 k22_13
     have k23_132 := kt hg23 132 (hB23.is 6)
     have k23_133 := kt hg23 133 (hB23.is 7)
     obtain ⟨W24, st24, ow24, ot24, z24, fB24⟩ := storeI_tail (c := c114') (i := kk - 6) (x := (uX (kk - 6)) - 1) (([u0, u1]).set (kk - 6) ((uX (kk - 6)) - 1)) (by show kk - 6 < 2; omega) rfl fB23 q212'
     refine tsk (o := _) rfl ⟨rfl, rfl⟩ (st24 (fr_ev k23_133) (fr_ev k23_132)) ?_
     have b24_0 := ot24 _ _ nea b23_0
     have b24_1 := ot24 _ _ nea b23_1
     have b24_2 := ot24 _ _ nea b23_2
     have b24_3 := ot24 _ _ nea b23_3
     have b24_4 := ot24 _ _ nea b23_4
     have b24_5 := ot24 _ _ nea b23_5
     have q213' := (q204'.other ot24 q205' (by omega) z24)
     have q214' := Nat.lt_of_lt_of_le q205' z24
     have q215' := (q206'.other ot24 q207' (by omega) z24)
     have q216' := Nat.lt_of_lt_of_le q207' z24
     have q217' := (q208'.other ot24 q209' (by omega) z24)
     have q218' := Nat.lt_of_lt_of_le q209' z24
     have q219' := q210'.other ot24 nea z24
     have q220' := q211'.other ot24 nea z24
     refine wpe ?_
     refine ibn ?_
     exact J133' _ _ ⟨k23_1, k23_4, k23_6, k23_7, k23_8, k23_13, fB24, (by omega), b24_0, b24_1, b24_2, b24_3, b24_4, (by rw [hq4l, hq2l, hq2m, hqt, hqo, ed, ee]; exact b24_5), q213', q214', q215', q216', q217', q218', (by rw [ea]; exact q219'), (by rw [eb]; exact q220'), (by rw [ec]; exact ow24)⟩
    ·
     have hc20' := hc20; try simp only [ba] at hc20'
     refine wp_seq_k fun K21 hK21 => ?_
     as_aux_lemma =>
     refine ry 3 [(135, 0), (136, 1), (134, 2)] [[], [0], [1]] (rel [iI ((kk : Int)), iB ((kk : Int) == 8), iB ((kk : Int) == 8)])
      ⟨fun f s W g j l m n a => opm (a.v 14 k22_14),
  fun f s W g j l m n a => opv rfl rfl (by simp [go_sem, a.e 135 (j 0 rfl)]) rfl,
  fun f s W g j l m n a => opm (a.v 136 (j 1 rfl)), trivial⟩ ?_
     intro f25 s25 W25 hB25 g25 hg25 z25
     have fB25 := hB25.f fB22
     have b25_0 := hB25.b b22_0
     have b25_1 := hB25.b b22_1
     have b25_2 := hB25.b b22_2
     have b25_3 := hB25.b b22_3
     have b25_4 := hB25.b b22_4
     have b25_5 := hB25.b b22_5
     have q221' := (q195'.bw hB25)
     have q222' := (hB25.lt q196')
     have q223' := (q197'.bw hB25)
     have q224' := (hB25.lt q198')
     have q225' := (q199'.bw hB25)
     have q226' := (hB25.lt q200')
     have q227' := (q201'.below hB25.below)
     have q228' := (q202'.below hB25.below)
     have q229' := (q203'.below hB25.below)
     refine hK21 _ _ ?_
     have k25_1 := kt hg25 1 k22_1
     have k25_4 := kt hg25 4 k22_4
     have k25_6 := kt hg25 6 k22_6
     have k25_7 := kt hg25 7 k22_7
     have k25_8 := kt hg25 8 k22_8
     have k25_13 := kt hg25 13 k22_13
     have k25_134 := kt hg25 134 (hB25.is 2)
     refine wp_cond_split (t := (kk : Int) == 8) ((fr_eval rfl).trans k25_134) (fun hc22 => ?_) (fun hc22 => ?_)
     ·
      have hc22' := hc22; try simp only [ba] at hc22'
      obtain ⟨ea, eb, ec, ed, ee⟩ := hq3 (by omega)
      as_aux_lemma =>
      refine ry 4 [(137, 0), (138, 1), (139, 2), (140, 3)] [[], [0], [1], [], [0, 1, 2, 3]] (rel [is (.pointer (some ⟨(s13 2), 2, none⟩)), iI mh, iI (mh - 1), is (.pointer (some ⟨(s13 2), 2, none⟩))])
       ⟨fun f s W g j l m n a => opv rfl rfl (by simp [go_sem, a.e 13 k25_13]) rfl,
  fun f s W g j l m n a => opv rfl rfl (by simp [go_sem, a.e 137 (j 0 rfl), cb b25_5 g 2]) rfl,
  fun f s W g j l m n a => opv rfl rfl (by simp [go_sem, a.e 138 (j 1 rfl), IntWalk.i64_in (mh - 1) (by omega)]) rfl,
  fun f s W g j l m n a => opv rfl rfl (by simp [go_sem, a.e 13 k25_13]) rfl, trivial⟩ ?_
      intro f26 s26 W26 hB26 g26 hg26 z26
      have fB26 := hB26.f fB25
      have b26_0 := hB26.b b25_0
      have b26_1 := hB26.b b25_1
      have b26_2 := hB26.b b25_2
      have b26_3 := hB26.b b25_3
      have b26_4 := hB26.b b25_4
      have b26_5 := hB26.b b25_5
      have q230' := (q221'.bw hB26)
      have q231' := (hB26.lt q222')
      have q232' := (q223'.bw hB26)
      have q233' := (hB26.lt q224')
      have q234' := (q225'.bw hB26)
      have q235' := (hB26.lt q226')
      have q236' := (q227'.below hB26.below)
      have q237' := (q228'.below hB26.below)
      have q238' := (q229'.below hB26.below)
      have k26_1 := kt hg26 1 k25_1
      have k26_4 := kt hg26 4 k25_4
      have k26_6 := kt hg26 6 k25_6
      have k26_7 := kt hg26 7 k25_7
      have k26_8 := kt hg26 8 k25_8
      have k26_13 := kt hg26 13 k25_13
      have k26_139 := kt hg26 139 (hB26.is 2)
      have k26_140 := kt hg26 140 (hB26.is 3)
      obtain ⟨W27, hW27⟩ : ∃ W', W' = W26.setRow (s13 2) #[.int .i64 30, .slice (some ⟨g109', 0, none⟩) 4 c112', .int .i64 (mh - 1), .slice (some ⟨g110', 0, none⟩) 2 c113', .slice (some ⟨g111', 0, none⟩) 2 c114', .int .i64 ms, .bool bm.isOpen] := ⟨_, rfl⟩
      refine tsk (o := _) rfl ⟨rfl, rfl⟩ (run_seg hW27 (fr_ev k26_140) (fr_ev k26_139) b26_5 rfl rfl rfl rfl) ?_
      obtain ⟨fB27, nb27, ot27, z27⟩ := sgf hW27 fB26 b26_5 (by omega)
      clear hW27
      have b27_0 := ot27 _ _ nea b26_0
      have b27_1 := ot27 _ _ nea b26_1
      have b27_2 := ot27 _ _ nea b26_2
      have b27_3 := ot27 _ _ nea b26_3
      have b27_4 := ot27 _ _ nea b26_4
      have q239' := (q230'.other ot27 q231' (by omega) z27)
      have q240' := Nat.lt_of_lt_of_le q231' z27
      have q241' := (q232'.other ot27 q233' (by omega) z27)
      have q242' := Nat.lt_of_lt_of_le q233' z27
      have q243' := (q234'.other ot27 q235' (by omega) z27)
      have q244' := Nat.lt_of_lt_of_le q235' z27
      have q245' := q236'.other ot27 nea z27
      have q246' := q237'.other ot27 nea z27
      have q247' := q238'.other ot27 nea z27
      refine wpe ?_
      refine ibn ?_
      exact J133' _ _ ⟨k26_1, k26_4, k26_6, k26_7, k26_8, k26_13, fB27, (by omega), b27_0, b27_1, b27_2, b27_3, b27_4, (by rw [hq4l, hq2l, hq2m, hqt, hqo, ed, ee]; exact nb27), q239', q240', q241', q242', q243', q244', (by rw [ea]; exact q245'), (by rw [eb]; exact q246'), (by rw [ec]; exact q247')⟩
     ·
      have hc22' := hc22; try simp only [ba] at hc22'
      obtain ⟨ea, eb, ec, ed, ee⟩ := hq4 (by omega)
      as_aux_lemma =>
      refine ry 4 [(98, 0), (99, 1), (100, 2), (101, 3)] [[], [0], [1], [], [0, 1, 2, 3]] (rel [is (.pointer (some ⟨(s13 2), 5, none⟩)), iI ms, iI (ms - 1), is (.pointer (some ⟨(s13 2), 5, none⟩))])
       ⟨fun f s W g j l m n a => opv rfl rfl (by simp [go_sem, a.e 13 k25_13]) rfl,
  fun f s W g j l m n a => opv rfl rfl (by simp [go_sem, a.e 98 (j 0 rfl), cb b25_5 g 5]) rfl,
  fun f s W g j l m n a => opv rfl rfl (by simp [go_sem, a.e 99 (j 1 rfl), IntWalk.i64_in (ms - 1) (by omega)]) rfl,
  fun f s W g j l m n a => opv rfl rfl (by simp [go_sem, a.e 13 k25_13]) rfl, trivial⟩ ?_
      intro f28 s28 W28 hB28 g28 hg28 z28
      have fB28 := hB28.f fB25
      have b28_0 := hB28.b b25_0
      have b28_1 := hB28.b b25_1
      have b28_2 := hB28.b b25_2
      have b28_3 := hB28.b b25_3
      have b28_4 := hB28.b b25_4
      have b28_5 := hB28.b b25_5
      have q248' := (q221'.bw hB28)
      have q249' := (hB28.lt q222')
      have q250' := (q223'.bw hB28)
      have q251' := (hB28.lt q224')
      have q252' := (q225'.bw hB28)
      have q253' := (hB28.lt q226')
      have q254' := (q227'.below hB28.below)
      have q255' := (q228'.below hB28.below)
      have q256' := (q229'.below hB28.below)
      have k28_1 := kt hg28 1 k25_1
      have k28_4 := kt hg28 4 k25_4
      have k28_6 := kt hg28 6 k25_6
      have k28_7 := kt hg28 7 k25_7
      have k28_8 := kt hg28 8 k25_8
      have k28_13 := kt hg28 13 k25_13
      have k28_100 := kt hg28 100 (hB28.is 2)
      have k28_101 := kt hg28 101 (hB28.is 3)
      obtain ⟨W29, hW29⟩ : ∃ W', W' = W28.setRow (s13 2) #[.int .i64 30, .slice (some ⟨g109', 0, none⟩) 4 c112', .int .i64 mh, .slice (some ⟨g110', 0, none⟩) 2 c113', .slice (some ⟨g111', 0, none⟩) 2 c114', .int .i64 (ms - 1), .bool bm.isOpen] := ⟨_, rfl⟩
      refine tsk (o := _) rfl ⟨rfl, rfl⟩ (run_seg hW29 (fr_ev k28_101) (fr_ev k28_100) b28_5 rfl rfl rfl rfl) ?_
      obtain ⟨fB29, nb29, ot29, z29⟩ := sgf hW29 fB28 b28_5 (by omega)
      clear hW29
      have b29_0 := ot29 _ _ nea b28_0
      have b29_1 := ot29 _ _ nea b28_1
      have b29_2 := ot29 _ _ nea b28_2
      have b29_3 := ot29 _ _ nea b28_3
      have b29_4 := ot29 _ _ nea b28_4
      have q257' := (q248'.other ot29 q249' (by omega) z29)
      have q258' := Nat.lt_of_lt_of_le q249' z29
      have q259' := (q250'.other ot29 q251' (by omega) z29)
      have q260' := Nat.lt_of_lt_of_le q251' z29
      have q261' := (q252'.other ot29 q253' (by omega) z29)
      have q262' := Nat.lt_of_lt_of_le q253' z29
      have q263' := q254'.other ot29 nea z29
      have q264' := q255'.other ot29 nea z29
      have q265' := q256'.other ot29 nea z29
      refine wpe ?_
      refine ibn ?_
      exact J133' _ _ ⟨k28_1, k28_4, k28_6, k28_7, k28_8, k28_13, fB29, (by omega), b29_0, b29_1, b29_2, b29_3, b29_4, (by rw [hq4l, hq2l, hq2m, hqt, hqo, ed, ee]; exact nb29), q257', q258', q259', q260', q261', q262', (by rw [ea]; exact q263'), (by rw [eb]; exact q264'), (by rw [ec]; exact q265')⟩
 rintro g_266 W_266 ⟨k_266_1, k_266_4, k_266_6, k_266_7, k_266_8, k_266_13, fB_266, z_266, b_266_0, b_266_1, b_266_2, b_266_3, b_266_4, m_266_0, q267', q268', q269', q270', q271', q272', q273', q274', q275'⟩
 refine hK13 _ _ ?_
 exact least_main_c20 x gx wh gwh kk hk hk10 b d bm bn bq vi m0 m1 m2 m3 mh t0 t1 u0 u1 ms lo hi rm rn E LE LL w hbx ht hcx hto hv hkd hck hwv j1 j2 j3 hM hN hmk hnk hml hmo hm4 hm2 hm3 hmt hn4 hn2 hn3 hbn hbl1 hbl2 hbl3 n1 n2 n3 hrm grm hrn grn hLE hLE0 pX tX uX hpX htX huX gp gt gu gmh gms hq4l hq2l hq2m hqt hqo hq0 hq1 hq2 hq3 hq4 hE hLL hbd g_266 W_266 bk0 bk1 bk2 (s13 2) g34' c37' g35' c38' g36' c39' g109' c112' g110' c113' g111' c114' g19' c22' g20' c23' g21' c24' bk3 bk4 k_266_4 k_266_6 k_266_7 k_266_8 k_266_13 fB_266 b_266_0 b_266_1 b_266_2 b_266_3 b_266_4 m_266_0 q267' q268' q269' q270' q271' q272' q273' q274' q275' (by omega) (by omega) (by omega) (by omega) (by omega) (by omega) nea nea nea nea nea nea nea nea nea nea nea nea nea nea nea nea nea nea nea nea nea nea nea nea nea nea nea nea nea nea nea nea nea nea nea nea
end Go.Proofs.YthnediamopehfaaGreat
