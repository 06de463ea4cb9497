/- Part of the proof: what the claim leans on. -/
import Derived.Test.YthnediamopehfaaGreatVLES11
set_option maxHeartbeats 60000000
set_option maxRecDepth 100000
set_option linter.unusedSimpArgs false
set_option linter.unusedVariables false
namespace Go.Proofs.YthnediamopehfaaGreat
open Go.RowKit
theorem least_main (x : Sh) (gx : ShIn x) (wh : Int) (gwh : 0 ≤ wh ∧ wh ≤ 255) (kk : Nat) (hk : wh % 10 = (kk : Int)) (hk10 : kk < 10) (b d bm bn bq : Bl) (vi : Wi) (m0 m1 m2 m3 mh t0 t1 u0 u1 ms lo hi rm rn E : Int) (LE LL : List Sp) (w : World) (hbx : shBl x = d) (ht : twinB d = b) (hcx : shCal x = (lo, hi)) (hto : b.isOpen = vi.isOpen) (hv : wishOf x b lo hi = vi) (hkd : checkErr d = 0) (hck : checkErr b = 0) (hwv : wishErr vi = 0) (j1 : 1 ≤ lo) (j2 : lo ≤ hi) (j3 : hi ≤ 10000) (hM : blankAll vi lo hi 30 = (bm, 0, 0)) (hN : blankAll vi lo ((lo + hi) / 2) 30 = (bn, 0, 0)) (hmk : checkErr bm = 0) (hnk : checkErr bn = 0) (hml : bm = ⟨30, [m0, m1, m2, m3], mh, [t0, t1], [u0, u1], ms, bm.isOpen⟩) (hmo : bm.isOpen = b.isOpen) (hm4 : ((bm.panels.length : Int) != 4) = false) (hm2 : ((bm.top.length : Int) != 2) = false) (hm3 : ((bm.bottom.length : Int) != 2) = false) (hmt : (bm.tab != 30) = false) (hn4 : ((bn.panels.length : Int) == 4) = true) (hn2 : ((bn.top.length : Int) == 2) = true) (hn3 : ((bn.bottom.length : Int) == 2) = true) (hbn : Two bn) (hbl1 : bm.panels.length = 4) (hbl2 : bm.top.length = 2) (hbl3 : bm.bottom.length = 2) (n1 : bm.panels.length ≤ 1000) (n2 : bm.top.length ≤ 1000) (n3 : bm.bottom.length ≤ 1000) (hrm : cmpB bm b = rm) (grm : ¬ 0 < rm) (hrn : cmpB bn bm = rn) (grn : rn ≤ 0) (hLE : closeL bm vi (lo, hi) = LE) (hLE0 : ((LE.length : Int) != 0) = false) (pX tX uX : Nat → Int) (hpX : ∀ i, [m0, m1, m2, m3].getD i 0 = pX i) (htX : ∀ i, [t0, t1].getD i 0 = tX i) (huX : ∀ i, [u0, u1].getD i 0 = uX i) (gp : ∀ i, 0 ≤ pX i ∧ pX i ≤ 3000) (gt : ∀ i, 0 ≤ tX i ∧ tX i ≤ 3000) (gu : ∀ i, 0 ≤ uX i ∧ uX i ≤ 3000) (gmh : 0 ≤ mh ∧ mh ≤ 3000) (gms : 0 ≤ ms ∧ ms ≤ 3000) (hq4l : bq.panels.length = 4) (hq2l : bq.top.length = 2) (hq2m : bq.bottom.length = 2) (hqt : bq.tab = 30) (hqo : bq.isOpen = bm.isOpen) (hq0 : kk < 4 → bq.panels = [m0, m1, m2, m3].set kk (pX kk - 1) ∧ bq.top = [t0, t1] ∧ bq.bottom = [u0, u1] ∧ bq.height = mh ∧ bq.slot = ms) (hq1 : 4 ≤ kk ∧ kk < 6 → bq.panels = [m0, m1, m2, m3] ∧ bq.top = [t0, t1].set (kk - 4) (tX (kk - 4) - 1) ∧ bq.bottom = [u0, u1] ∧ bq.height = mh ∧ bq.slot = ms) (hq2 : 6 ≤ kk ∧ kk < 8 → bq.panels = [m0, m1, m2, m3] ∧ bq.top = [t0, t1] ∧ bq.bottom = [u0, u1].set (kk - 6) (uX (kk - 6) - 1) ∧ bq.height = mh ∧ bq.slot = ms) (hq3 : kk = 8 → bq.panels = [m0, m1, m2, m3] ∧ bq.top = [t0, t1] ∧ bq.bottom = [u0, u1] ∧ bq.height = mh - 1 ∧ bq.slot = ms) (hq4 : kk = 9 → bq.panels = [m0, m1, m2, m3] ∧ bq.top = [t0, t1] ∧ bq.bottom = [u0, u1] ∧ bq.height = mh ∧ bq.slot = ms - 1) (hE : wishedErr bq vi [(lo, hi)] = E) (hLL : (if wishedErr bq vi [(lo, hi)] = 0 then closeL bq vi (lo, hi) else []) = LL) (hbd : (((E == 0) && ((LL.length : Int) == 0)) || ((E != 0) && (E != 2))) = false) :
  Calls Tryz.prog 9 #[.agg #[.int .u8 x.x0, .int .u8 x.x1, .int .u8 x.x2, .int .u8 x.x3, .int .u8 x.xh, .int .u8 x.y0, .int .u8 x.y1, .int .u8 x.y2, .int .u8 x.y3, .bool x.xo, .int .u8 x.ca, .int .u8 x.cb, .int .u8 x.v0, .int .u8 x.v1, .int .u8 x.v2, .int .u8 x.v3, .int .u8 x.v4], .int .u8 wh] w (fun e w' => e = .returned (.bool true) ∧ Below w.heap.size w w') := by
 refine calls_fr Tryz.func9 Tryz.ntmps9 rfl rfl fun g hg => ?_
 have k0 : g 0 = .agg #[.int .u8 x.x0, .int .u8 x.x1, .int .u8 x.x2, .int .u8 x.x3, .int .u8 x.xh, .int .u8 x.y0, .int .u8 x.y1, .int .u8 x.y2, .int .u8 x.y3, .bool x.xo, .int .u8 x.ca, .int .u8 x.cb, .int .u8 x.v0, .int .u8 x.v1, .int .u8 x.v2, .int .u8 x.v3, .int .u8 x.v4] := hg 0
 have k1 : g 1 = .int .u8 wh := hg 1
 clear hg
 have fB0 : Below w.heap.size w w := Below.refl _ _
 refine wp_seq_k fun K1 hK1 => ?_
 as_aux_lemma =>
 refine ry 2 [(2, 0), (4, 1)] [[], []] (rel [bx 0 #[.int .u8 x.x0, .int .u8 x.x1, .int .u8 x.x2, .int .u8 x.x3, .int .u8 x.xh, .int .u8 x.y0, .int .u8 x.y1, .int .u8 x.y2, .int .u8 x.y3, .bool x.xo, .int .u8 x.ca, .int .u8 x.cb, .int .u8 x.v0, .int .u8 x.v1, .int .u8 x.v2, .int .u8 x.v3, .int .u8 x.v4] 72, iB false])
  ⟨fun f s W hW j m n p a => opb rfl rfl (by simp [go_sem, a.e 0 k0]),
  fun f s W hW j m n p a => opz, trivial⟩ ?_
 intro f1 s1 W1 hB1 g1 hg1 z1
 have fB1 := hB1.f fB0
 obtain ⟨r1_0, br1_0⟩ := hB1.is 0
 have lr1_0 := hB1.lr 0 br1_0
 refine hK1 _ _ ?_
 have k1_2 := kt hg1 2 r1_0
 refine wp_seq_k fun K2 hK2 => ?_
 as_aux_lemma =>
 refine region_doL (LeK (W1.heap.size) (twoT 24 26) (twoG 24 (b) (#[.int .i64 lo, .int .i64 hi]))) LeK.refl (LeK.drew twoG_b) LeK.trans (fun _ _ h => h.size) 9 [(20, 0), (21, 1), (22, 2), (23, 3), (24, 4), (5, 5), (6, 6)] [[], [0], [0, 1], [], [0, 1, 2, 3], [], [], [0, 1, 2, 3, 4, 5, 6], [0, 1, 2, 3, 4, 5, 6, 7]] (rel [is (.agg #[.int .u8 x.x0, .int .u8 x.x1, .int .u8 x.x2, .int .u8 x.x3, .int .u8 x.xh, .int .u8 x.y0, .int .u8 x.y1, .int .u8 x.y2, .int .u8 x.y3, .bool x.xo, .int .u8 x.ca, .int .u8 x.cb, .int .u8 x.v0, .int .u8 x.v1, .int .u8 x.v2, .int .u8 x.v3, .int .u8 x.v4]),
   ab fun v W => TyBlk 0 d v W,
   ab fun v W => TyBlk 0 b v W,
   is (.agg #[.int .u8 x.x0, .int .u8 x.x1, .int .u8 x.x2, .int .u8 x.x3, .int .u8 x.xh, .int .u8 x.y0, .int .u8 x.y1, .int .u8 x.y2, .int .u8 x.y3, .bool x.xo, .int .u8 x.ca, .int .u8 x.cb, .int .u8 x.v0, .int .u8 x.v1, .int .u8 x.v2, .int .u8 x.v3, .int .u8 x.v4]),
   is (.agg #[.int .i64 lo, .int .i64 hi]),
   boxK (W1.heap.size) 24 7 5,
   boxK (W1.heap.size) 26 2 6,
   stoK (W1.heap.size) 24 (twoG 24 (b) (#[.int .i64 lo, .int .i64 hi])) 5,
   stoK (W1.heap.size) 26 (twoG 24 (b) (#[.int .i64 lo, .int .i64 hi])) 6]) (by kernel_rfl) (by kernel_rfl) (by kernel_rfl) (by kernel_rfl)
  ⟨is_kl, tyK_k rfl, tyK_k rfl, is_kl, is_kl, boxK_k rfl, boxK_k rfl, stoK_k rfl (by simp), stoK_k rfl (by simp), trivial⟩
  ⟨fun f s W hT j m n p a => by have hW := LeK.below hT (Nat.le_refl _); exact OpDo.l (LeK.of_below twoG_b) (opl rfl rfl rfl (a.v 2 k1_2) (bwb br1_0 hW) Tryz.underlying72 rfl (by kernel_rfl) rfl),
  fun f s W hT j m n p a => by have hW := LeK.below hT (Nat.le_refl _); exact OpDo.l (LeK.of_below twoG_b) (opd (args := #[.agg #[.int .u8 x.x0, .int .u8 x.x1, .int .u8 x.x2, .int .u8 x.x3, .int .u8 x.xh, .int .u8 x.y0, .int .u8 x.y1, .int .u8 x.y2, .int .u8 x.y3, .bool x.xo, .int .u8 x.ca, .int .u8 x.cb, .int .u8 x.v0, .int .u8 x.v1, .int .u8 x.v2, .int .u8 x.v3, .int .u8 x.v4]]) rfl rfl (by simp [go_sem, a.e 20 (j 0 rfl)]) ((hbx ▸ sheet_b x gx W : Calls _ _ _ W (TyBlkP d W))) ((fun e W' h => by obtain ⟨v, e1, h1, h2⟩ := h; exact ⟨_, e1, h2, h1.low (Nat.zero_le _)⟩))),
  fun f s W hT j m n p a => by have hW := LeK.below hT (Nat.le_refl _); exact OpDo.l (LeK.of_below twoG_b) (by obtain ⟨g1', c4', g2', c5', g3', c6', d1, q7', q8', q9'⟩ := (j 1 rfl); exact opd (args := #[.agg #[.int .i64 d.tab, .slice (some ⟨g1', 0, none⟩) (d.panels.length) c4', .int .i64 d.height, .slice (some ⟨g2', 0, none⟩) (d.top.length) c5', .slice (some ⟨g3', 0, none⟩) (d.bottom.length) c6', .int .i64 d.slot, .bool d.isOpen]]) rfl rfl (by simp [go_sem, a.e 21 d1]) (twin_ty d W ⟨_, _, _, _, _, _, rfl, q7', q8', q9'⟩ hkd) ((fun e W' h => by obtain ⟨v, e1, h1, h2⟩ := h; rw [ht] at h1; exact ⟨_, e1, h2, h1⟩))),
  fun f s W hT j m n p a => by have hW := LeK.below hT (Nat.le_refl _); exact OpDo.l (LeK.of_below twoG_b) (opl rfl rfl rfl (a.v 2 k1_2) (bwb br1_0 hW) Tryz.underlying72 rfl (by kernel_rfl) rfl),
  fun f s W hT j m n p a => by have hW := LeK.below hT (Nat.le_refl _); exact OpDo.l (LeK.of_below twoG_b) (opd rfl rfl (by simp [go_sem, a.e 23 (j 3 rfl)]) (sheet_c x gx W) ((fun e W' h => by have h1 := h.1; rw [hcx] at h1; exact ⟨_, h1, h.2, rfl⟩))),
  fun f s W hT j m n p a => opK (cs := #[.int .i64 0, .slice none 0 0, .int .i64 0, .slice none 0 0, .slice none 0 0, .int .i64 0, .bool false]) twoG_b (hT.size) rfl rfl (by simp [go_sem]) rfl,
  fun f s W hT j m n p a => opK (cs := #[.int .i64 0, .int .i64 0]) twoG_b (hT.size) rfl rfl (by simp [go_sem]) rfl,
  fun f s W hT j m n p a => by obtain ⟨g10', c13', g11', c14', g12', c15', dv, q16', q17', q18'⟩ := (j 2 rfl); exact stoK_do (#[.int .i64 b.tab, .slice (some ⟨g10', 0, none⟩) (b.panels.length) c13', .int .i64 b.height, .slice (some ⟨g11', 0, none⟩) (b.top.length) c14', .slice (some ⟨g12', 0, none⟩) (b.bottom.length) c15', .int .i64 b.slot, .bool b.isOpen]) rfl rfl (by decide) (j 5 rfl) (a.v 5 (j 5 rfl).1) (a.v 22 dv) rfl rfl (by rfl) (by rfl) (show tyC (b) #[.int .i64 b.tab, .slice (some ⟨g10', 0, none⟩) (b.panels.length) c13', .int .i64 b.height, .slice (some ⟨g11', 0, none⟩) (b.top.length) c14', .slice (some ⟨g12', 0, none⟩) (b.bottom.length) c15', .int .i64 b.slot, .bool b.isOpen] W from ⟨g10', c13', g11', c14', g12', c15', rfl, q16', q17', q18'⟩) (twoG_s rfl),
  fun f s W hT j m n p a => by exact stoK_do (#[.int .i64 lo, .int .i64 hi]) rfl rfl (by decide) (j 6 rfl) (a.v 6 (j 6 rfl).1) (a.v 24 (j 4 rfl)) rfl rfl (by rfl) (by rfl) (show justC #[.int .i64 lo, .int .i64 hi] #[.int .i64 lo, .int .i64 hi] W from rfl) (twoG_s rfl), trivial⟩ ?_
 intro f2 s2 W2 hB2
 have hb2 := LeK.below hB2.le (Nat.le_refl _)
 have fB2 := bwt fB1 hb2
 have z2 : W1.heap.size ≤ W2.heap.size := hb2.size
 have b2_0 := bwb br1_0 hb2
 obtain ⟨r2_5, lb2_5, -⟩ := hB2.is 5
 obtain ⟨-, cs2_5, bs2_5, hG2_5⟩ := hB2.is 7
 have hY2 : TyBlk 0 (b) (.agg cs2_5) W2 := hG2_5
 obtain ⟨g19', c22', g20', c23', g21', c24', eY2, q25', q26', q27'⟩ := hY2
 obtain rfl := Value.agg.inj eY2
 have lr2_5 : W1.heap.size ≤ s2 5 ∧ s2 5 < W2.heap.size := ⟨lb2_5, ltb bs2_5⟩
 obtain ⟨r2_6, lb2_6, -⟩ := hB2.is 6
 obtain ⟨-, cs2_6, bs2_6, hG2_6⟩ := hB2.is 8
 obtain rfl : cs2_6 = #[.int .i64 lo, .int .i64 hi] := hG2_6
 have lr2_6 : W1.heap.size ≤ s2 6 ∧ s2 6 < W2.heap.size := ⟨lb2_6, ltb bs2_6⟩
 have nk2_5_6 : s2 5 ≠ s2 6 := fun e => by rw [e] at bs2_5; exact absurd (bs2_5.symm.trans bs2_6) (by simp)
 generalize hg2 : ov [(20, 0), (21, 1), (22, 2), (23, 3), (24, 4), (5, 5), (6, 6)] f2 g1 = g2
 have k2_2 := kt hg2 2 k1_2
 have k2_5 := kt hg2 5 r2_5
 have k2_6 := kt hg2 6 r2_6
 refine wpe ?_
 refine hK2 _ _ ?_
 refine wp_seq_k fun K3 hK3 => ?_
 as_aux_lemma =>
 refine ry 5 [(25, 0), (26, 1), (27, 2), (28, 3), (7, 4)] [[], [], [], [0, 1, 2], [], [0, 1, 2, 3, 4]] (rel [is (.agg #[.int .u8 x.x0, .int .u8 x.x1, .int .u8 x.x2, .int .u8 x.x3, .int .u8 x.xh, .int .u8 x.y0, .int .u8 x.y1, .int .u8 x.y2, .int .u8 x.y3, .bool x.xo, .int .u8 x.ca, .int .u8 x.cb, .int .u8 x.v0, .int .u8 x.v1, .int .u8 x.v2, .int .u8 x.v3, .int .u8 x.v4]), is (.agg #[.int .i64 b.tab, .slice (some ⟨g19', 0, none⟩) (b.panels.length) c22', .int .i64 b.height, .slice (some ⟨g20', 0, none⟩) (b.top.length) c23', .slice (some ⟨g21', 0, none⟩) (b.bottom.length) c24', .int .i64 b.slot, .bool b.isOpen]), is (.agg #[.int .i64 lo, .int .i64 hi]), is (.agg #[.int .i64 vi.length.1, .int .i64 vi.length.2, .int .i64 vi.width.1, .int .i64 vi.width.2, .int .i64 vi.height.1, .int .i64 vi.height.2, .int .i64 vi.outer.1, .int .i64 vi.outer.2, .int .i64 vi.inner.1, .int .i64 vi.inner.2, .bool vi.isOpen]), bx 4 #[.int .i64 0, .int .i64 0, .int .i64 0, .int .i64 0, .int .i64 0, .int .i64 0, .int .i64 0, .int .i64 0, .int .i64 0, .int .i64 0, .bool false] 43])
  ⟨fun f s W hW j m n p a => opl rfl rfl rfl (a.v 2 k2_2) (bwb b2_0 hW) Tryz.underlying72 rfl (by kernel_rfl) rfl,
  fun f s W hW j m n p a => opl rfl rfl rfl (a.v 5 k2_5) (bwb bs2_5 hW) Tryz.underlying24 rfl (by kernel_rfl) rfl,
  fun f s W hW j m n p a => opv rfl rfl (by simp [go_sem, a.e 6 k2_6, cb bs2_6 hW 0, cb bs2_6 hW 1]) rfl,
  fun f s W hW j m n p a => opd (args := #[.agg #[.int .u8 x.x0, .int .u8 x.x1, .int .u8 x.x2, .int .u8 x.x3, .int .u8 x.xh, .int .u8 x.y0, .int .u8 x.y1, .int .u8 x.y2, .int .u8 x.y3, .bool x.xo, .int .u8 x.ca, .int .u8 x.cb, .int .u8 x.v0, .int .u8 x.v1, .int .u8 x.v2, .int .u8 x.v3, .int .u8 x.v4], .agg #[.int .i64 b.tab, .slice (some ⟨g19', 0, none⟩) (b.panels.length) c22', .int .i64 b.height, .slice (some ⟨g20', 0, none⟩) (b.top.length) c23', .slice (some ⟨g21', 0, none⟩) (b.bottom.length) c24', .int .i64 b.slot, .bool b.isOpen], .agg #[.int .i64 lo, .int .i64 hi]]) rfl rfl (by simp [go_sem, a.e 25 (j 0 rfl), a.e 26 (j 1 rfl), a.e 27 (j 2 rfl)]) (wished_blk x gx _ _ _ _ _ _ b lo hi W ((q25'.below hW)).ii ((q26'.below hW)).ii ((q27'.below hW)).ii hck (by omega) (by omega)) ((fun e W' h => by have h1 := h.1; rw [hto, hv] at h1; exact ⟨_, h1, h.2, rfl⟩)),
  fun f s W hW j m n p a => opb rfl rfl (by simp [go_sem]), trivial⟩ ?_
 intro f3 s3 W3 hB3 g3 hg3 z3
 have fB3 := hB3.f fB2
 have b3_0 := hB3.b b2_0
 have b3_1 := hB3.b bs2_5
 have b3_2 := hB3.b bs2_6
 have q28' := (q25'.below hB3.below)
 have q29' := (q26'.below hB3.below)
 have q30' := (q27'.below hB3.below)
 obtain ⟨r3_4, br3_4⟩ := hB3.is 4
 have lr3_4 := hB3.lr 4 br3_4
 have k3_6 := kt hg3 6 k2_6
 have k3_28 := kt hg3 28 (hB3.is 3)
 have k3_7 := kt hg3 7 r3_4
 obtain ⟨W4, hW4⟩ : ∃ W', W' = W3.setRow (s3 4) #[.int .i64 vi.length.1, .int .i64 vi.length.2, .int .i64 vi.width.1, .int .i64 vi.width.2, .int .i64 vi.height.1, .int .i64 vi.height.2, .int .i64 vi.outer.1, .int .i64 vi.outer.2, .int .i64 vi.inner.1, .int .i64 vi.inner.2, .bool vi.isOpen] := ⟨_, rfl⟩
 refine tsk (o := _) rfl ⟨rfl, rfl⟩ (run_seg hW4 (fr_ev k3_7) (fr_ev k3_28) br3_4 rfl rfl rfl rfl) ?_
 obtain ⟨fB4, nb4, ot4, z4⟩ := sgf hW4 fB3 br3_4 (by omega)
 clear hW4
 have b4_0 := ot4 _ _ nea b3_0
 have b4_1 := ot4 _ _ nea b3_1
 have b4_2 := ot4 _ _ nea b3_2
 have q31' := q28'.other ot4 (own_ne q28' br3_4) z4
 have q32' := q29'.other ot4 (own_ne q29' br3_4) z4
 have q33' := q30'.other ot4 (own_ne q30' br3_4) z4
 refine wpe ?_
 refine hK3 _ _ ?_
 have fA5 : Below W4.heap.size W4 W4 := Below.refl _ _
 refine wp_seq_k fun K4 hK4 => ?_
 as_aux_lemma =>
 refine rz 8 [(30, 0), (31, 1), (32, 2), (29, 3), (33, 4), (34, 5), (35, 6), (8, 7), (9, 9), (10, 10)] [[], [], [0, 1], [0, 1, 2], [0, 1, 2, 3], [0, 1, 2, 3], [0, 1, 2, 3], [], [0, 1, 2, 3, 4, 7], [0, 1, 2, 3, 4, 5, 7, 8], [0, 1, 2, 3, 4, 5, 6, 7, 8, 9]] (rel [is (.agg #[.int .i64 vi.length.1, .int .i64 vi.length.2, .int .i64 vi.width.1, .int .i64 vi.width.2, .int .i64 vi.height.1, .int .i64 vi.height.2, .int .i64 vi.outer.1, .int .i64 vi.outer.2, .int .i64 vi.inner.1, .int .i64 vi.inner.2, .bool vi.isOpen]),
   is (.agg #[.int .i64 lo, .int .i64 hi]),
   fun v s W => ∃ x0, v = .tuple #[x0, .int .i64 0, .int .i64 0] ∧ NwBlk (s 2) (bm) x0 W,
   fun v s W => ∃ x0, v = .tuple #[x0, .int .i64 0, .int .i64 0] ∧ NwBlk (s 2) (bm) x0 W,
   fun v s W => NwBlk (s 2) (bm) v W,
   is (.int .i64 0),
   is (.int .i64 0),
   bx 7 #[.int .i64 0, .slice none 0 0, .int .i64 0, .slice none 0 0, .slice none 0 0, .int .i64 0, .bool false] 24])
  ⟨is_k, is_k, ⟨fun v k W W' hb ⟨x0, e, h0⟩ => ⟨x0, e, h0.below hb⟩, fun v s s' W e ⟨x0, e1, h0⟩ => ⟨x0, e1, (e 2 (by simp)) ▸ h0⟩⟩, ⟨fun v k W W' hb ⟨x0, e, h0⟩ => ⟨x0, e, h0.below hb⟩, fun v s s' W e h => by have h' : ∃ x0, v = .tuple #[x0, .int .i64 0, .int .i64 0] ∧ NwBlk (s 2) (bm) x0 W := h; show ∃ x0, v = .tuple #[x0, .int .i64 0, .int .i64 0] ∧ NwBlk (s' 2) (bm) x0 W; rw [← e 2 (by simp)]; exact h'⟩, ⟨fun v k W W' hb h => h.below hb, fun v s s' W e h => by have h' : NwBlk (s 2) (bm) v W := h; show NwBlk (s' 2) (bm) v W; rw [← e 2 (by simp)]; exact h'⟩, is_k, is_k, bx_k, trivial⟩
  ⟨fun f s W hW j m n p a => by have aW := bwt fA5 hW; exact opl rfl rfl rfl (a.v 7 k3_7) (bwb nb4 aW) Tryz.underlying43 rfl (by kernel_rfl) rfl,
  fun f s W hW j m n p a => by have aW := bwt fA5 hW; exact opv rfl rfl (by simp [go_sem, a.e 6 k3_6, cb b4_2 aW 0, cb b4_2 aW 1]) rfl,
  fun f s W hW j m n p a => opd rfl rfl (by simp [go_sem, a.e 30 (j 0 rfl), a.e 31 (j 1 rfl)]) (blank_is vi lo hi 30 W hM) (fun e W' h => by obtain ⟨u, e1, h1, h2⟩ := h; exact ⟨_, e1, h2, u, rfl, (show NwBlk (upd s 2 W.heap.size 2) (bm) u W' from by rw [upd_at]; exact h1)⟩),
  fun f s W hW j m n p a => opv (v := (f 2)) rfl rfl (by simp [go_sem, (a.at' 32 rfl : p.tmps[32]?.getD undef = f 2)] <;> rfl) (j 2 rfl),
  fun f s W hW j m n p a => by obtain ⟨x3_0, d3, p3_0⟩ := (j 3 rfl); exact opv (v := x3_0) rfl rfl (by simp [go_sem, a.e 29 d3]) p3_0,
  fun f s W hW j m n p a => by obtain ⟨x3_0, d3, p3_0⟩ := (j 3 rfl); exact opv rfl rfl (by simp [go_sem, a.e 29 d3]) rfl,
  fun f s W hW j m n p a => by obtain ⟨x3_0, d3, p3_0⟩ := (j 3 rfl); exact opv rfl rfl (by simp [go_sem, a.e 29 d3]) rfl,
  fun f s W hW j m n p a => opb rfl rfl (by simp [go_sem]), trivial⟩ ?_
 intro f6 s6 W6 hB6 g6 hg6 z6
 have fB6 := hB6.f fB4
 have fA6 := hB6.f fA5
 have la6_4_2 := hB6.from' 2 (by decide)
 obtain ⟨g34', c37', g35', c38', g36', c39', r6_4, ⟨q40', q42', q41'⟩, ⟨q43', q45', q44'⟩, ⟨q46', q48', q47'⟩⟩ := hB6.is 4
 obtain ⟨r6_7, br6_7⟩ := hB6.is 7
 have lr6_7 := hB6.lr 7 br6_7
 have oc6_4_7_0 := step_ne q40' (by omega) br6_7 rfl
 have oc6_4_7_1 := step_ne q43' (by omega) br6_7 rfl
 have oc6_4_7_2 := step_ne q46' (by omega) br6_7 rfl
 have k6_33 := kt hg6 33 r6_4
 have k6_34 := kt hg6 34 (hB6.is 5)
 have k6_8 := kt hg6 8 r6_7
 obtain ⟨W7, hW7⟩ : ∃ W', W' = W6.setRow (s6 7) #[.int .i64 bm.tab, .slice (some ⟨g34', 0, none⟩) (bm.panels.length) c37', .int .i64 bm.height, .slice (some ⟨g35', 0, none⟩) (bm.top.length) c38', .slice (some ⟨g36', 0, none⟩) (bm.bottom.length) c39', .int .i64 bm.slot, .bool bm.isOpen] := ⟨_, rfl⟩
 refine tsk (o := _) rfl ⟨rfl, rfl⟩ (run_seg hW7 (fr_ev k6_8) (fr_ev k6_33) br6_7 rfl rfl rfl rfl) ?_
 obtain ⟨fB7, nb7, ot7, z7⟩ := sgf hW7 fB6 br6_7 (by omega)
 have fA7 := (sgf hW7 fA6 br6_7 (by omega)).1
 clear hW7
 have q49' := (q40'.other ot7 q41' (by omega) z7)
 have q50' := Nat.lt_of_lt_of_le q41' z7
 have q51' := (q43'.other ot7 q44' (by omega) z7)
 have q52' := Nat.lt_of_lt_of_le q44' z7
 have q53' := (q46'.other ot7 q47' (by omega) z7)
 have q54' := Nat.lt_of_lt_of_le q47' z7
 refine tail_value (o := _) rfl rfl rfl (v := .int .i64 0) (by simp [go_sem, frv 207 k6_34]) ?_
 generalize hg8 : upd g6 9 (.int .i64 0) = g8
 have k8_35 := ku hg8 35 (kt hg6 35 (hB6.is 6))
 refine tail_value (o := _) rfl rfl rfl (v := .int .i64 0) (by simp [go_sem, frv 207 k8_35]) ?_
 generalize hg9 : upd g8 10 (.int .i64 0) = g9
 have k9_5 := ku hg9 5 (ku hg8 5 (kt hg6 5 (kt hg3 5 k2_5)))
 have k9_8 := ku hg9 8 (ku hg8 8 k6_8)
 have k9_9 := ku hg9 9 (kt hg8 9 (upd_same _ _ _))
 have k9_10 := kt hg9 10 (upd_same _ _ _)
 refine wpe ?_
 refine hK4 _ _ ?_
 refine wp_seq_k fun K5 hK5 => ?_
 refine wp_seq_k fun K6 hK6 => ?_
 as_aux_lemma =>
 refine ry 42 [(36, 0), (37, 1), (38, 2), (39, 3), (40, 4), (41, 5), (42, 6), (43, 7), (44, 8), (45, 9), (46, 10), (47, 11), (48, 12), (49, 13), (50, 14), (51, 15), (52, 16), (53, 17), (54, 18), (55, 19), (56, 20), (57, 21), (58, 22), (59, 23), (60, 24), (61, 25), (62, 26), (63, 27), (64, 28), (65, 29), (66, 30), (67, 31), (68, 32), (69, 33), (70, 34), (71, 35), (72, 36), (73, 37), (74, 38), (75, 39), (76, 40), (77, 41)] [[], [0], [1], [2], [2, 3], [2, 4], [5], [6], [6, 7], [6, 8], [6, 9], [6, 10], [11], [12], [12, 13], [12, 14], [12, 15], [12, 16], [17], [18], [18, 19], [18, 20], [18, 21], [18, 22], [23], [24], [24, 25], [24, 26], [24, 27], [28], [29], [29, 30], [29], [29, 32], [29, 31, 33], [29, 34], [35], [36], [36], [36, 37, 38], [36, 39], [36, 40]] (rel [iI 0, iB false, iB false, iI 0, iB false, iB false, iB false, is (.pointer (some ⟨(s6 7), 1, none⟩)), is (.slice (some ⟨g34', 0, none⟩) (bm.panels.length) c37'), iI ((bm.panels.length : Int)), iB false, iB false, iB false, is (.pointer (some ⟨(s6 7), 3, none⟩)), is (.slice (some ⟨g35', 0, none⟩) (bm.top.length) c38'), iI ((bm.top.length : Int)), iB false, iB false, iB false, is (.pointer (some ⟨(s6 7), 4, none⟩)), is (.slice (some ⟨g36', 0, none⟩) (bm.bottom.length) c39'), iI ((bm.bottom.length : Int)), iB false, iB false, iB false, is (.pointer (some ⟨(s6 7), 0, none⟩)), iI bm.tab, iB false, iB false, iB false, is (.pointer (some ⟨(s6 7), 6, none⟩)), iB bm.isOpen, is (.pointer (some ⟨(s2 5), 6, none⟩)), iB b.isOpen, iB false, iB false, iB false, is (.agg #[.int .i64 bm.tab, .slice (some ⟨g34', 0, none⟩) (bm.panels.length) c37', .int .i64 bm.height, .slice (some ⟨g35', 0, none⟩) (bm.top.length) c38', .slice (some ⟨g36', 0, none⟩) (bm.bottom.length) c39', .int .i64 bm.slot, .bool bm.isOpen]), is (.agg #[.int .i64 b.tab, .slice (some ⟨g19', 0, none⟩) (b.panels.length) c22', .int .i64 b.height, .slice (some ⟨g20', 0, none⟩) (b.top.length) c23', .slice (some ⟨g21', 0, none⟩) (b.bottom.length) c24', .int .i64 b.slot, .bool b.isOpen]), iI rm, iB false, iB false])
  ⟨fun f s W hW j m n p a => opm (a.v 10 k9_10),
  fun f s W hW j m n p a => opv rfl rfl (by simp [go_sem, a.e 36 (j 0 rfl)]) rfl,
  fun f s W hW j m n p a => opm (a.v 37 (j 1 rfl)),
  fun f s W hW j m n p a => osure rfl rfl (a.says (d := 38) rfl rfl (j 2 rfl)) (gv (by simp [go_sem, a.e 9 k9_9]) rfl),
  fun f s W hW j m n p a => osure rfl rfl (a.says (d := 38) rfl rfl (j 2 rfl)) (gv (by simp [go_sem, a.e 39 (j 3 rfl)]) rfl),
  fun f s W hW j m n p a => opk (c := false) rfl rfl (fun _ => by simp [go_sem, a.e 38 (j 2 rfl), a.e 40 (j 4 rfl)]) (fun h => absurd h (by decide)),
  fun f s W hW j m n p a => opm (a.v 41 (j 5 rfl)),
  fun f s W hW j m n p a => osure rfl rfl (a.says (d := 42) rfl rfl (j 6 rfl)) (gv (by simp [go_sem, a.e 8 k9_8]) rfl),
  fun f s W hW j m n p a => osure rfl rfl (a.says (d := 42) rfl rfl (j 6 rfl)) (gv (by simp [go_sem, a.e 43 (j 7 rfl), cb nb7 hW 1]) rfl),
  fun f s W hW j m n p a => osure rfl rfl (a.says (d := 42) rfl rfl (j 6 rfl)) (gv (by simp [go_sem, a.e 44 (j 8 rfl)]) rfl),
  fun f s W hW j m n p a => osure rfl rfl (a.says (d := 42) rfl rfl (j 6 rfl)) (gv (by simp [go_sem, a.e 45 (j 9 rfl), hm4]) rfl),
  fun f s W hW j m n p a => opk (c := false) rfl rfl (fun _ => by simp [go_sem, a.e 42 (j 6 rfl), a.e 46 (j 10 rfl)]) (fun h => absurd h (by decide)),
  fun f s W hW j m n p a => opm (a.v 47 (j 11 rfl)),
  fun f s W hW j m n p a => osure rfl rfl (a.says (d := 48) rfl rfl (j 12 rfl)) (gv (by simp [go_sem, a.e 8 k9_8]) rfl),
  fun f s W hW j m n p a => osure rfl rfl (a.says (d := 48) rfl rfl (j 12 rfl)) (gv (by simp [go_sem, a.e 49 (j 13 rfl), cb nb7 hW 3]) rfl),
  fun f s W hW j m n p a => osure rfl rfl (a.says (d := 48) rfl rfl (j 12 rfl)) (gv (by simp [go_sem, a.e 50 (j 14 rfl)]) rfl),
  fun f s W hW j m n p a => osure rfl rfl (a.says (d := 48) rfl rfl (j 12 rfl)) (gv (by simp [go_sem, a.e 51 (j 15 rfl), hm2]) rfl),
  fun f s W hW j m n p a => opk (c := false) rfl rfl (fun _ => by simp [go_sem, a.e 48 (j 12 rfl), a.e 52 (j 16 rfl)]) (fun h => absurd h (by decide)),
  fun f s W hW j m n p a => opm (a.v 53 (j 17 rfl)),
  fun f s W hW j m n p a => osure rfl rfl (a.says (d := 54) rfl rfl (j 18 rfl)) (gv (by simp [go_sem, a.e 8 k9_8]) rfl),
  fun f s W hW j m n p a => osure rfl rfl (a.says (d := 54) rfl rfl (j 18 rfl)) (gv (by simp [go_sem, a.e 55 (j 19 rfl), cb nb7 hW 4]) rfl),
  fun f s W hW j m n p a => osure rfl rfl (a.says (d := 54) rfl rfl (j 18 rfl)) (gv (by simp [go_sem, a.e 56 (j 20 rfl)]) rfl),
  fun f s W hW j m n p a => osure rfl rfl (a.says (d := 54) rfl rfl (j 18 rfl)) (gv (by simp [go_sem, a.e 57 (j 21 rfl), hm3]) rfl),
  fun f s W hW j m n p a => opk (c := false) rfl rfl (fun _ => by simp [go_sem, a.e 54 (j 18 rfl), a.e 58 (j 22 rfl)]) (fun h => absurd h (by decide)),
  fun f s W hW j m n p a => opm (a.v 59 (j 23 rfl)),
  fun f s W hW j m n p a => osure rfl rfl (a.says (d := 60) rfl rfl (j 24 rfl)) (gv (by simp [go_sem, a.e 8 k9_8]) rfl),
  fun f s W hW j m n p a => osure rfl rfl (a.says (d := 60) rfl rfl (j 24 rfl)) (gv (by simp [go_sem, a.e 61 (j 25 rfl), cb nb7 hW 0]) rfl),
  fun f s W hW j m n p a => osure rfl rfl (a.says (d := 60) rfl rfl (j 24 rfl)) (gv (by simp [go_sem, a.e 62 (j 26 rfl), hmt]) rfl),
  fun f s W hW j m n p a => opk (c := false) rfl rfl (fun _ => by simp [go_sem, a.e 60 (j 24 rfl), a.e 63 (j 27 rfl)]) (fun h => absurd h (by decide)),
  fun f s W hW j m n p a => opm (a.v 64 (j 28 rfl)),
  fun f s W hW j m n p a => osure rfl rfl (a.says (d := 65) rfl rfl (j 29 rfl)) (gv (by simp [go_sem, a.e 8 k9_8]) rfl),
  fun f s W hW j m n p a => osure rfl rfl (a.says (d := 65) rfl rfl (j 29 rfl)) (gv (by simp [go_sem, a.e 66 (j 30 rfl), cb nb7 hW 6]) rfl),
  fun f s W hW j m n p a => osure rfl rfl (a.says (d := 65) rfl rfl (j 29 rfl)) (gv (by simp [go_sem, a.e 5 k9_5]) rfl),
  fun f s W hW j m n p a => osure rfl rfl (a.says (d := 65) rfl rfl (j 29 rfl)) (by have aW := bwt fA7 hW; exact gv (by simp [go_sem, a.e 68 (j 32 rfl), cb b4_1 aW 6]) rfl),
  fun f s W hW j m n p a => osure rfl rfl (a.says (d := 65) rfl rfl (j 29 rfl)) (gv (by simp [go_sem, a.e 67 (j 31 rfl), a.e 69 (j 33 rfl), hmo]) rfl),
  fun f s W hW j m n p a => opk (c := false) rfl rfl (fun _ => by simp [go_sem, a.e 65 (j 29 rfl), a.e 70 (j 34 rfl)]) (fun h => absurd h (by decide)),
  fun f s W hW j m n p a => opm (a.v 71 (j 35 rfl)),
  fun f s W hW j m n p a => osure rfl rfl (a.says (d := 72) rfl rfl (j 36 rfl)) (gv (by simp [go_sem, a.e 8 k9_8, cb nb7 hW 0, cb nb7 hW 1, cb nb7 hW 2, cb nb7 hW 3, cb nb7 hW 4, cb nb7 hW 5, cb nb7 hW 6]) rfl),
  fun f s W hW j m n p a => osure rfl rfl (a.says (d := 72) rfl rfl (j 36 rfl)) (by have aW := bwt fA7 hW; exact gv (by simp [go_sem, a.e 5 k9_5, cb b4_1 aW 0, cb b4_1 aW 1, cb b4_1 aW 2, cb b4_1 aW 3, cb b4_1 aW 4, cb b4_1 aW 5, cb b4_1 aW 6]) rfl),
  fun f s W hW j m n p a => osure rfl rfl (a.says (d := 72) rfl rfl (j 36 rfl)) (by have aW := bwt fA7 hW; exact gc (args := #[.agg #[.int .i64 bm.tab, .slice (some ⟨g34', 0, none⟩) (bm.panels.length) c37', .int .i64 bm.height, .slice (some ⟨g35', 0, none⟩) (bm.top.length) c38', .slice (some ⟨g36', 0, none⟩) (bm.bottom.length) c39', .int .i64 bm.slot, .bool bm.isOpen], .agg #[.int .i64 b.tab, .slice (some ⟨g19', 0, none⟩) (b.panels.length) c22', .int .i64 b.height, .slice (some ⟨g20', 0, none⟩) (b.top.length) c23', .slice (some ⟨g21', 0, none⟩) (b.bottom.length) c24', .int .i64 b.slot, .bool b.isOpen]]) (by simp [go_sem, a.e 73 (j 37 rfl), a.e 74 (j 38 rfl)]) (compared_blk (b := bm) (d := b) W ⟨_, _, _, _, _, _, _, _, _, rfl, ((q49'.below hW (Nat.le_refl _))), ((q51'.below hW (Nat.le_refl _))), ((q53'.below hW (Nat.le_refl _)))⟩ ⟨_, _, _, _, _, _, _, _, _, rfl, ((q31'.below aW)).ii, ((q32'.below aW)).ii, ((q33'.below aW)).ii⟩ hmk hck hrm)),
  fun f s W hW j m n p a => osure rfl rfl (a.says (d := 72) rfl rfl (j 36 rfl)) (gv (by simp [go_sem, a.e 75 (j 39 rfl), grm]) rfl),
  fun f s W hW j m n p a => opk (c := false) rfl rfl (fun _ => by simp [go_sem, a.e 72 (j 36 rfl), a.e 76 (j 40 rfl)]) (fun h => absurd h (by decide)), trivial⟩ ?_
 intro f10 s10 W10 hB10 g10 hg10 z10
 have fB10 := hB10.f fB7
 have fA10 := hB10.f fA7
 have b10_4 := hB10.b nb7
 have q55' := (q49'.bw hB10)
 have q56' := (hB10.lt q50')
 have q57' := (q51'.bw hB10)
 have q58' := (hB10.lt q52')
 have q59' := (q53'.bw hB10)
 have q60' := (hB10.lt q54')
 refine hK6 _ _ ?_
 have k10_1 := kt hg10 1 (ku hg9 1 (ku hg8 1 (kt hg6 1 (kt hg3 1 (kt hg2 1 (kt hg1 1 k1))))))
 have k10_4 := kt hg10 4 (ku hg9 4 (ku hg8 4 (kt hg6 4 (kt hg3 4 (kt hg2 4 (kt hg1 4 (hB1.is 1)))))))
 have k10_6 := kt hg10 6 (ku hg9 6 (ku hg8 6 (kt hg6 6 k3_6)))
 have k10_7 := kt hg10 7 (ku hg9 7 (ku hg8 7 (kt hg6 7 k3_7)))
 have k10_8 := kt hg10 8 k9_8
 have k10_77 := kt hg10 77 (hB10.is 41)
 refine wp_cond_false ((fr_eval rfl).trans k10_77) ?_
 refine wp_skip ?_
 refine hK5 _ _ ?_
 have q61' := (q31'.below fA10)
 have q62' := (q32'.below fA10)
 have q63' := (q33'.below fA10)
 have bl64' := bwb b4_0 fA10
 have bl65' := bwb b4_1 fA10
 have bl66' := bwb b4_2 fA10
 have bl67' := bwb nb4 fA10
 exact least_main_c6 x gx wh gwh kk hk hk10 b d bm bn bq vi m0 m1 m2 m3 mh t0 t1 u0 u1 ms lo hi rm rn E LE LL w hbx ht hcx hto hv hkd hck hwv j1 j2 j3 hM hN hmk hnk hml hmo hm4 hm2 hm3 hmt hn4 hn2 hn3 hbn hbl1 hbl2 hbl3 n1 n2 n3 hrm grm hrn grn hLE hLE0 pX tX uX hpX htX huX gp gt gu gmh gms hq4l hq2l hq2m hqt hqo hq0 hq1 hq2 hq3 hq4 hE hLL hbd g10 W10 (s2 6) (s3 4) (s6 7) g19' c22' g20' c23' g21' c24' g34' c37' g35' c38' g36' c39' (s1 0) (s2 5) k10_1 k10_4 k10_6 k10_7 k10_8 fB10 bl64' bl65' bl66' bl67' b10_4 q55' q56' q57' q58' q59' q60' (by omega) (by omega) (by omega) (by omega) (by omega) nea nea nea nea nea nea nea nea nea nea
end Go.Proofs.YthnediamopehfaaGreat
