/- Part of the proof: what the claim leans on. -/
import Derived.Test.YthnediamopehfaaGreatVLEL10
set_option maxHeartbeats 60000000
set_option maxRecDepth 100000
set_option linter.unusedSimpArgs false
set_option linter.unusedVariables false
namespace Go.Proofs.YthnediamopehfaaGreat
open Go.RowKit
theorem least_main_c6 (x : Sh) (gx : ShIn x) (wh : Int) (gwh : 0 ≤ wh ∧ wh ≤ 255) (kk : Nat) (hk : wh % 10 = (kk : Int)) (hk10 : kk < 10) (b d bm bn bq : Bl) (vi : Wi) (m0 m1 m2 m3 mh t0 t1 u0 u1 ms lo hi rm rn E : Int) (LE LL : List Sp) (w : World) (hbx : shBl x = d) (ht : twinB d = b) (hcx : shCal x = (lo, hi)) (hto : b.isOpen = vi.isOpen) (hv : wishOf x b lo hi = vi) (hkd : checkErr d = 0) (hck : checkErr b = 0) (hwv : wishErr vi = 0) (j1 : 1 ≤ lo) (j2 : lo ≤ hi) (j3 : hi ≤ 10000) (hM : blankAll vi lo hi 30 = (bm, 0, 0)) (hN : blankAll vi lo ((lo + hi) / 2) 30 = (bn, 0, 0)) (hmk : checkErr bm = 0) (hnk : checkErr bn = 0) (hml : bm = ⟨30, [m0, m1, m2, m3], mh, [t0, t1], [u0, u1], ms, bm.isOpen⟩) (hmo : bm.isOpen = b.isOpen) (hm4 : ((bm.panels.length : Int) != 4) = false) (hm2 : ((bm.top.length : Int) != 2) = false) (hm3 : ((bm.bottom.length : Int) != 2) = false) (hmt : (bm.tab != 30) = false) (hn4 : ((bn.panels.length : Int) == 4) = true) (hn2 : ((bn.top.length : Int) == 2) = true) (hn3 : ((bn.bottom.length : Int) == 2) = true) (hbn : Two bn) (hbl1 : bm.panels.length = 4) (hbl2 : bm.top.length = 2) (hbl3 : bm.bottom.length = 2) (n1 : bm.panels.length ≤ 1000) (n2 : bm.top.length ≤ 1000) (n3 : bm.bottom.length ≤ 1000) (hrm : cmpB bm b = rm) (grm : ¬ 0 < rm) (hrn : cmpB bn bm = rn) (grn : rn ≤ 0) (hLE : closeL bm vi (lo, hi) = LE) (hLE0 : ((LE.length : Int) != 0) = false) (pX tX uX : Nat → Int) (hpX : ∀ i, [m0, m1, m2, m3].getD i 0 = pX i) (htX : ∀ i, [t0, t1].getD i 0 = tX i) (huX : ∀ i, [u0, u1].getD i 0 = uX i) (gp : ∀ i, 0 ≤ pX i ∧ pX i ≤ 3000) (gt : ∀ i, 0 ≤ tX i ∧ tX i ≤ 3000) (gu : ∀ i, 0 ≤ uX i ∧ uX i ≤ 3000) (gmh : 0 ≤ mh ∧ mh ≤ 3000) (gms : 0 ≤ ms ∧ ms ≤ 3000) (hq4l : bq.panels.length = 4) (hq2l : bq.top.length = 2) (hq2m : bq.bottom.length = 2) (hqt : bq.tab = 30) (hqo : bq.isOpen = bm.isOpen) (hq0 : kk < 4 → bq.panels = [m0, m1, m2, m3].set kk (pX kk - 1) ∧ bq.top = [t0, t1] ∧ bq.bottom = [u0, u1] ∧ bq.height = mh ∧ bq.slot = ms) (hq1 : 4 ≤ kk ∧ kk < 6 → bq.panels = [m0, m1, m2, m3] ∧ bq.top = [t0, t1].set (kk - 4) (tX (kk - 4) - 1) ∧ bq.bottom = [u0, u1] ∧ bq.height = mh ∧ bq.slot = ms) (hq2 : 6 ≤ kk ∧ kk < 8 → bq.panels = [m0, m1, m2, m3] ∧ bq.top = [t0, t1] ∧ bq.bottom = [u0, u1].set (kk - 6) (uX (kk - 6) - 1) ∧ bq.height = mh ∧ bq.slot = ms) (hq3 : kk = 8 → bq.panels = [m0, m1, m2, m3] ∧ bq.top = [t0, t1] ∧ bq.bottom = [u0, u1] ∧ bq.height = mh - 1 ∧ bq.slot = ms) (hq4 : kk = 9 → bq.panels = [m0, m1, m2, m3] ∧ bq.top = [t0, t1] ∧ bq.bottom = [u0, u1] ∧ bq.height = mh ∧ bq.slot = ms - 1) (hE : wishedErr bq vi [(lo, hi)] = E) (hLL : (if wishedErr bq vi [(lo, hi)] = 0 then closeL bq vi (lo, hi) else []) = LL) (hbd : (((E == 0) && ((LL.length : Int) == 0)) || ((E != 0) && (E != 2))) = false) (gq_ : Nat → Value) (Wq_ : World) (bk0 : Nat) (bk1 : Nat) (bk2 : Nat) (g19' : Nat) (c22' : Nat) (g20' : Nat) (c23' : Nat) (g21' : Nat) (c24' : Nat) (g34' : Nat) (c37' : Nat) (g35' : Nat) (c38' : Nat) (g36' : Nat) (c39' : Nat) (bk3 : Nat) (bk4 : Nat)  (k_1 : gq_ 1 = .int .u8 wh) (k_4 : gq_ 4 = .bool false) (k_6 : gq_ 6 = .pointer (some ⟨bk0, 0, none⟩)) (k_7 : gq_ 7 = .pointer (some ⟨bk1, 0, none⟩)) (k_8 : gq_ 8 = .pointer (some ⟨bk2, 0, none⟩)) (fB_ : Below w.heap.size w Wq_) (bl_0 : Wq_.heap[bk3]? = some (.cells #[.int .u8 x.x0, .int .u8 x.x1, .int .u8 x.x2, .int .u8 x.x3, .int .u8 x.xh, .int .u8 x.y0, .int .u8 x.y1, .int .u8 x.y2, .int .u8 x.y3, .bool x.xo, .int .u8 x.ca, .int .u8 x.cb, .int .u8 x.v0, .int .u8 x.v1, .int .u8 x.v2, .int .u8 x.v3, .int .u8 x.v4] 72 (0, 0))) (bl_1 : Wq_.heap[bk4]? = some (.cells #[.int .i64 b.tab, .slice (some ⟨g19', 0, none⟩) (b.panels.length) c22', .int .i64 b.height, .slice (some ⟨g20', 0, none⟩) (b.top.length) c23', .slice (some ⟨g21', 0, none⟩) (b.bottom.length) c24', .int .i64 b.slot, .bool b.isOpen] 24 (0, 0))) (bl_2 : Wq_.heap[bk0]? = some (.cells #[.int .i64 lo, .int .i64 hi] 26 (0, 0))) (bl_3 : Wq_.heap[bk1]? = some (.cells #[.int .i64 vi.length.1, .int .i64 vi.length.2, .int .i64 vi.width.1, .int .i64 vi.width.2, .int .i64 vi.height.1, .int .i64 vi.height.2, .int .i64 vi.outer.1, .int .i64 vi.outer.2, .int .i64 vi.inner.1, .int .i64 vi.inner.2, .bool vi.isOpen] 43 (0, 0))) (bl_4 : Wq_.heap[bk2]? = some (.cells #[.int .i64 bm.tab, .slice (some ⟨g34', 0, none⟩) (bm.panels.length) c37', .int .i64 bm.height, .slice (some ⟨g35', 0, none⟩) (bm.top.length) c38', .slice (some ⟨g36', 0, none⟩) (bm.bottom.length) c39', .int .i64 bm.slot, .bool bm.isOpen] 24 (0, 0))) (ft_0 : Ii Wq_ (some ⟨g34', 0, none⟩) (bm).panels.length c37' (bm).panels) (ft_1 : g34' < Wq_.heap.size) (ft_2 : Ii Wq_ (some ⟨g35', 0, none⟩) (bm).top.length c38' (bm).top) (ft_3 : g35' < Wq_.heap.size) (ft_4 : Ii Wq_ (some ⟨g36', 0, none⟩) (bm).bottom.length c39' (bm).bottom) (ft_5 : g36' < Wq_.heap.size) (lw_bk3 : w.heap.size ≤ bk3) (lw_bk4 : w.heap.size ≤ bk4) (lw_bk0 : w.heap.size ≤ bk0) (lw_bk1 : w.heap.size ≤ bk1) (lw_bk2 : w.heap.size ≤ bk2) (ne_0_1 : bk3 ≠ bk4) (ne_0_2 : bk3 ≠ bk0) (ne_1_2 : bk4 ≠ bk0) (ne_0_3 : bk3 ≠ bk1) (ne_1_3 : bk4 ≠ bk1) (ne_2_3 : bk0 ≠ bk1) (ne_0_4 : bk3 ≠ bk2) (ne_1_4 : bk4 ≠ bk2) (ne_2_4 : bk0 ≠ bk2) (ne_3_4 : bk1 ≠ bk2) :
  (tailC 5 (bodyC Tryz.f9)).wp Tryz.prog (bodyPost Tryz.prog Tryz.f9 (fun e w' => e = .returned (.bool true) ∧ Below w.heap.size w w')) (fr 207 gq_) Wq_ := by
 have lt_bk3 := ltb bl_0
 have lt_bk4 := ltb bl_1
 have lt_bk0 := ltb bl_2
 have lt_bk1 := ltb bl_3
 have lt_bk2 := ltb bl_4
 refine wp_seq_k fun K8 hK8 => ?_
 as_aux_lemma =>
 refine rz 10 [(79, 0), (80, 1), (81, 2), (82, 3), (83, 4), (78, 5), (84, 6), (85, 7), (11, 8), (12, 9)] [[], [0], [], [], [0, 1, 2, 3], [0, 1, 2, 3, 4], [0, 1, 2, 3, 4, 5], [0, 1, 2, 3, 4, 5], [0, 1, 2, 3, 4, 5, 6], [0, 1, 2, 3, 4, 5, 6, 7, 8]] (rel [is (.agg #[.int .i64 bm.tab, .slice (some ⟨g34', 0, none⟩) (bm.panels.length) c37', .int .i64 bm.height, .slice (some ⟨g35', 0, none⟩) (bm.top.length) c38', .slice (some ⟨g36', 0, none⟩) (bm.bottom.length) c39', .int .i64 bm.slot, .bool bm.isOpen]),
   fun v s W => NwBlk (s 1) (bm) v W,
   is (.agg #[.int .i64 vi.length.1, .int .i64 vi.length.2, .int .i64 vi.width.1, .int .i64 vi.width.2, .int .i64 vi.height.1, .int .i64 vi.height.2, .int .i64 vi.outer.1, .int .i64 vi.outer.2, .int .i64 vi.inner.1, .int .i64 vi.inner.2, .bool vi.isOpen]),
   is (.agg #[.int .i64 lo, .int .i64 hi]),
   ab fun v W => ∃ x0, v = .tuple #[x0, .int .i64 0] ∧ IsPp LE x0 W,
   ab fun v W => ∃ x0, v = .tuple #[x0, .int .i64 0] ∧ IsPp LE x0 W,
   ab fun v W => IsPp LE v W,
   is (.int .i64 0),
   ab fun v W => IsPp LE v W,
   is (.int .i64 0)])
  ⟨is_k, ⟨fun v k W W' hb h => h.below hb, fun v s s' W e h => by have h' : NwBlk (s 1) (bm) v W := h; show NwBlk (s' 1) (bm) v W; rw [← e 1 (by simp)]; exact h'⟩, is_k, is_k, ab_k fun v W W' hb ⟨x0, e, h0⟩ => ⟨x0, e, h0.below hb⟩, ab_k fun v W W' hb ⟨x0, e, h0⟩ => ⟨x0, e, h0.below hb⟩, ab_k fun v W W' hb h => h.below hb, is_k, ab_k fun v W W' hb h => h.below hb, is_k, trivial⟩
  ⟨fun f s W g j l m n a => opl rfl rfl rfl (a.v 8 k_8) (bwb bl_4 g) Tryz.underlying24 rfl (by kernel_rfl) rfl,
  fun f s W g j l m n a => opd (args := #[.agg #[.int .i64 bm.tab, .slice (some ⟨g34', 0, none⟩) (bm.panels.length) c37', .int .i64 bm.height, .slice (some ⟨g35', 0, none⟩) (bm.top.length) c38', .slice (some ⟨g36', 0, none⟩) (bm.bottom.length) c39', .int .i64 bm.slot, .bool bm.isOpen]]) rfl rfl (by simp [go_sem, a.e 79 (j 0 rfl)]) (own_any _ _ _ _ _ _ bm W ((ft_0.below g (Nat.le_refl _))) ((ft_2.below g (Nat.le_refl _))) ((ft_4.below g (Nat.le_refl _))) n1 n2 n3) (fun e W' h => by obtain ⟨v, e1, h1, h2⟩ := h; exact ⟨v, e1, h2, (show NwBlk (upd s 1 W.heap.size 1) (bm) v W' from by rw [upd_at]; exact h1)⟩),
  fun f s W g j l m n a => opl rfl rfl rfl (a.v 7 k_7) (bwb bl_3 g) Tryz.underlying43 rfl (by kernel_rfl) rfl,
  fun f s W g j l m n a => opv rfl rfl (by simp [go_sem, a.e 6 k_6, cb bl_2 g 0, cb bl_2 g 1]) rfl,
  fun f s W g j l m n a => by obtain ⟨g68', c71', g69', c72', g70', c73', d1, ⟨q74', q76', q75'⟩, ⟨q77', q79', q78'⟩, ⟨q80', q82', q81'⟩⟩ := (j 1 rfl); exact opd (args := #[.agg #[.int .i64 bm.tab, .slice (some ⟨g68', 0, none⟩) (bm.panels.length) c71', .int .i64 bm.height, .slice (some ⟨g69', 0, none⟩) (bm.top.length) c72', .slice (some ⟨g70', 0, none⟩) (bm.bottom.length) c73', .int .i64 bm.slot, .bool bm.isOpen], .agg #[.int .i64 vi.length.1, .int .i64 vi.length.2, .int .i64 vi.width.1, .int .i64 vi.width.2, .int .i64 vi.height.1, .int .i64 vi.height.2, .int .i64 vi.outer.1, .int .i64 vi.outer.2, .int .i64 vi.inner.1, .int .i64 vi.inner.2, .bool vi.isOpen], .agg #[.int .i64 lo, .int .i64 hi]]) rfl rfl (by simp [go_sem, a.e 80 d1, a.e 81 (j 2 rfl), a.e 82 (j 3 rfl)]) (close_ok (b := bm) vi lo hi W ⟨_, _, _, _, _, _, _, _, _, rfl, q74', q77', q80'⟩ hmk hwv j1 j2 j3) ((fun e W' h => by obtain ⟨x, e1, h1, h2⟩ := h; rw [hLE] at h1; exact ⟨_, e1, h2, _, rfl, h1⟩)),
  fun f s W g j l m n a => opv (v := (f 4)) rfl rfl (by simp [go_sem, (a.at' 83 rfl : n.tmps[83]?.getD undef = f 4)] <;> rfl) (j 4 rfl),
  fun f s W g j l m n a => by obtain ⟨x5_0, d5, p5_0⟩ := (j 5 rfl); exact opv (v := x5_0) rfl rfl (by simp [go_sem, a.e 78 d5]) p5_0,
  fun f s W g j l m n a => by obtain ⟨x5_0, d5, p5_0⟩ := (j 5 rfl); exact opv rfl rfl (by simp [go_sem, a.e 78 d5]) rfl,
  fun f s W g j l m n a => opv (v := (f 6)) rfl rfl (by simp [go_sem, (a.at' 84 rfl : n.tmps[84]?.getD undef = f 6)] <;> rfl) (j 6 rfl),
  fun f s W g j l m n a => opv rfl rfl (by simp [go_sem, a.e 85 (j 7 rfl)]) rfl, trivial⟩ ?_
 intro f11 s11 W11 hB11 g11 hg11 z11
 have q86' := (ft_0.bw hB11)
 have q87' := (hB11.lt ft_1)
 have q88' := (ft_2.bw hB11)
 have q89' := (hB11.lt ft_3)
 have q90' := (ft_4.bw hB11)
 have q91' := (hB11.lt ft_5)
 obtain ⟨a92', c93', r11_8, q94'⟩ := hB11.is 8
 have lim95' := Pp.lim q94'
 refine hK8 _ _ ?_
 have k11_11 := kt hg11 11 r11_8
 have k11_12 := kt hg11 12 (hB11.is 9)
 refine wp_seq_k fun K9 hK9 => ?_
 refine wp_seq_k fun K10 hK10 => ?_
 as_aux_lemma =>
 refine ry 7 [(86, 0), (87, 1), (88, 2), (89, 3), (90, 4), (91, 5), (92, 6)] [[], [0], [1], [2], [2, 3], [2, 4], [2, 5]] (rel [iI 0, iB false, iB false, is (.slice a92' (LE.length) c93'), iI ((LE.length : Int)), iB false, iB false])
  ⟨fun f s W g j l m n a => opm (a.v 12 k11_12),
  fun f s W g j l m n a => opv rfl rfl (by simp [go_sem, a.e 86 (j 0 rfl)]) rfl,
  fun f s W g j l m n a => opm (a.v 87 (j 1 rfl)),
  fun f s W g j l m n a => osure rfl rfl (a.says (d := 88) rfl rfl (j 2 rfl)) (gv (by simp [go_sem, a.e 11 k11_11]) rfl),
  fun f s W g j l m n a => osure rfl rfl (a.says (d := 88) rfl rfl (j 2 rfl)) (gv (by simp [go_sem, a.e 89 (j 3 rfl)]) rfl),
  fun f s W g j l m n a => osure rfl rfl (a.says (d := 88) rfl rfl (j 2 rfl)) (gv (by simp [go_sem, a.e 90 (j 4 rfl), hLE0]) rfl),
  fun f s W g j l m n a => opk (c := false) rfl rfl (fun _ => by simp [go_sem, a.e 88 (j 2 rfl), a.e 91 (j 5 rfl)]) (fun h => absurd h (by decide)), trivial⟩ ?_
 intro f12 s12 W12 hB12 g12 hg12 z12
 have fB12 := hB12.f (hB11.f fB_)
 have b12_0 := hB12.b (hB11.b bl_0)
 have b12_1 := hB12.b (hB11.b bl_1)
 have b12_2 := hB12.b (hB11.b bl_2)
 have b12_3 := hB12.b (hB11.b bl_3)
 have b12_4 := hB12.b (hB11.b bl_4)
 have q96' := (q86'.bw hB12)
 have q97' := (hB12.lt q87')
 have q98' := (q88'.bw hB12)
 have q99' := (hB12.lt q89')
 have q100' := (q90'.bw hB12)
 have q101' := (hB12.lt q91')
 have q102' := (q94'.bw hB12)
 refine hK10 _ _ ?_
 have k12_1 := kt hg12 1 (kt hg11 1 k_1)
 have k12_4 := kt hg12 4 (kt hg11 4 k_4)
 have k12_6 := kt hg12 6 (kt hg11 6 k_6)
 have k12_7 := kt hg12 7 (kt hg11 7 k_7)
 have k12_8 := kt hg12 8 (kt hg11 8 k_8)
 have k12_92 := kt hg12 92 (hB12.is 6)
 refine wp_cond_false ((fr_eval rfl).trans k12_92) ?_
 refine wp_skip ?_
 refine hK9 _ _ ?_
 exact least_main_c9 x gx wh gwh kk hk hk10 b d bm bn bq vi m0 m1 m2 m3 mh t0 t1 u0 u1 ms lo hi rm rn E LE LL w hbx ht hcx hto hv hkd hck hwv j1 j2 j3 hM hN hmk hnk hml hmo hm4 hm2 hm3 hmt hn4 hn2 hn3 hbn hbl1 hbl2 hbl3 n1 n2 n3 hrm grm hrn grn hLE hLE0 pX tX uX hpX htX huX gp gt gu gmh gms hq4l hq2l hq2m hqt hqo hq0 hq1 hq2 hq3 hq4 hE hLL hbd g12 W12 bk0 bk1 bk2 g34' c37' g35' c38' g36' c39' a92' c93' g19' c22' g20' c23' g21' c24' bk3 bk4 k12_1 k12_4 k12_6 k12_7 k12_8 fB12 b12_0 b12_1 b12_2 b12_3 b12_4 q96' q97' q98' q99' q100' q101' (by omega) (by omega) (by omega) (by omega) (by omega) nea nea nea nea nea nea nea nea nea nea
end Go.Proofs.YthnediamopehfaaGreat
