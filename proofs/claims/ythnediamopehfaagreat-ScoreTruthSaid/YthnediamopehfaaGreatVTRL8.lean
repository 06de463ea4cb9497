/- Part of the proof: what the claim leans on. -/
import Derived.Test.YthnediamopehfaaGreatVTRS7
set_option maxHeartbeats 60000000
set_option maxRecDepth 100000
set_option linter.unusedSimpArgs false
set_option linter.unusedVariables false
namespace Go.Proofs.YthnediamopehfaaGreat
open Go.RowKit
theorem truth_main_c26 (x : Sh) (gx : ShIn x) (ws : Nat → Int) (v0 v1 : Int) (gv0 : 0 ≤ v0 ∧ v0 ≤ 255) (gv1 : 0 ≤ v1 ∧ v1 ≤ 255) (b d sb : Bl) (vi : Wi) (p0 p1 p2 p3 hh t0 t1 u0 u1 lo hi off cal q1 q2 n : Int) (dd : Nat → Int) (LI : List Sp) (w : World) (gws : ∀ j, j < 9 → -128 ≤ ws j ∧ ws j ≤ 127) (hbx : shBl x = d) (ht : twinB d = b) (hcx : shCal x = (lo, hi)) (hto : b.isOpen = vi.isOpen) (hv : wishOf x b lo hi = vi) (hkd : checkErr d = 0) (hck : checkErr b = 0) (hcs : checkErr sb = 0) (hwv : wishErr vi = 0) (hof : v0 % 6 = off) (gof : 0 ≤ off ∧ off ≤ 5) (hdd : ∀ j, j < 9 → (ws j).tmod (off + 1) = dd j) (gdd : ∀ j, j < 9 → -5 ≤ dd j ∧ dd j ≤ 5) (hbl : b = ⟨30, [p0, p1, p2, p3], hh, [t0, t1], [u0, u1], 9, b.isOpen⟩) (hsn : sb = ⟨30, [p0 + (dd 0), p1 + (dd 1), p2 + (dd 2), p3 + (dd 3)], hh + (dd 8), [if b.isOpen = true then t0 else max 0 (t0 + dd 6), if b.isOpen = true then t1 else max 0 (t1 + dd 7)], [max 0 (u0 + (dd 4)), max 0 (u1 + (dd 5))], 9, b.isOpen⟩) (gp0 : 0 ≤ p0 ∧ p0 ≤ 1000) (gp1 : 0 ≤ p1 ∧ p1 ≤ 1000) (gp2 : 0 ≤ p2 ∧ p2 ≤ 1000) (gp3 : 0 ≤ p3 ∧ p3 ≤ 1000) (ghh : 0 ≤ hh ∧ hh ≤ 1000) (gt0 : 0 ≤ t0 ∧ t0 ≤ 1000) (gt1 : 0 ≤ t1 ∧ t1 ≤ 1000) (gu0 : 0 ≤ u0 ∧ u0 ≤ 1000) (gu1 : 0 ≤ u1 ∧ u1 ≤ 1000) (j1 : 1 ≤ lo) (j2 : lo ≤ hi) (j3 : hi ≤ 10000) (gmu : 0 ≤ v1 * (hi - lo) ∧ v1 * (hi - lo) ≤ 255 * (hi - lo)) (hcal : lo + ((v1 * (hi - lo)) / 255) = cal) (gcal : lo ≤ cal ∧ cal ≤ hi) (hLI : innerL sb (lo, hi) off = LI) (hL9 : LI.length = 9) (hmic : ∀ j, j < 9 → (nthP LI j).1 ≤ mic b cal j ∧ mic b cal j ≤ (nthP LI j).2) (hM : mayOf sb vi lo hi off = (n, 0)) (hn1 : lo ≤ n) (hn2 : n ≤ cal) (hM2 : mayOf b vi cal hi 0 = (cal, 0)) (hF : calErr b vi = 0) (hq : calOf b vi = (q1, q2)) (hq1 : q1 ≤ lo) (hq2 : hi ≤ q2) (n1 : b.panels.length ≤ 1000) (n2 : b.top.length ≤ 1000) (n3 : b.bottom.length ≤ 1000) (g_ : Nat → Value) (W_ : World) (bk1 : Nat) (bk2 : Nat) (bk3 : Nat) (bk4 : Nat) (bk5 : Nat) (a214' : Option Addr) (c215' : Nat) (bk8 : Nat) (g19' : Nat) (c22' : Nat) (g20' : Nat) (c23' : Nat) (g21' : Nat) (c24' : Nat) (g37' : Nat) (c40' : Nat) (g39' : Nat) (c42' : Nat) (g38' : Nat) (c41' : Nat) (bk7 : Nat) (bk6 : Nat) (bk0 : Nat) (zt0 zt1 : Int) (k_6 : g_ 6 = .bool false) (k_7 : g_ 7 = .pointer (some ⟨bk1, 0, none⟩)) (k_8 : g_ 8 = .pointer (some ⟨bk2, 0, none⟩)) (k_9 : g_ 9 = .pointer (some ⟨bk3, 0, none⟩)) (k_10 : g_ 10 = .pointer (some ⟨bk4, 0, none⟩)) (k_11 : g_ 11 = .pointer (some ⟨bk5, 0, none⟩)) (k_15 : g_ 15 = .int .i64 cal) (fB_ : Below w.heap.size w W_) (bl_0 : W_.heap[bk7]? = some (.cells #[.int .u8 x.x0, .int .u8 x.x1, .int .u8 x.x2, .int .u8 x.x3, .int .u8 x.xh, .int .u8 x.y0, .int .u8 x.y1, .int .u8 x.y2, .int .u8 x.y3, .bool x.xo, .int .u8 x.ca, .int .u8 x.cb, .int .u8 x.v0, .int .u8 x.v1, .int .u8 x.v2, .int .u8 x.v3, .int .u8 x.v4] 72 (0, 0))) (bl_1 : W_.heap[bk6]? = some (.cells #[.int .i8 ((ws 0)), .int .i8 ((ws 1)), .int .i8 ((ws 2)), .int .i8 ((ws 3)), .int .i8 ((ws 4)), .int .i8 ((ws 5)), .int .i8 ((ws 6)), .int .i8 ((ws 7)), .int .i8 ((ws 8))] 85 (0, 0))) (bl_2 : W_.heap[bk0]? = some (.cells #[.int .u8 v0, .int .u8 v1] 69 (0, 0))) (bl_3 : W_.heap[bk1]? = some (.cells #[.int .i64 b.tab, .slice (some ⟨g19', 0, none⟩) (b.panels.length) c22', .int .i64 b.height, .slice (some ⟨g20', 0, none⟩) (b.top.length) c23', .slice (some ⟨g21', 0, none⟩) (b.bottom.length) c24', .int .i64 b.slot, .bool b.isOpen] 24 (0, 0))) (bl_4 : W_.heap[bk2]? = some (.cells #[.int .i64 lo, .int .i64 hi] 26 (0, 0))) (bl_5 : W_.heap[bk3]? = some (.cells #[.int .i64 off] 3 (0, 0))) (bl_6 : W_.heap[bk4]? = some (.cells #[.int .i64 vi.length.1, .int .i64 vi.length.2, .int .i64 vi.width.1, .int .i64 vi.width.2, .int .i64 vi.height.1, .int .i64 vi.height.2, .int .i64 vi.outer.1, .int .i64 vi.outer.2, .int .i64 vi.inner.1, .int .i64 vi.inner.2, .bool vi.isOpen] 43 (0, 0))) (bl_7 : W_.heap[bk5]? = some (.cells #[.int .i64 30, .slice (some ⟨g37', 0, none⟩) 4 c40', .int .i64 (hh + (dd 8)), .slice (some ⟨g38', 0, none⟩) 2 c41', .slice (some ⟨g39', 0, none⟩) 2 c42', .int .i64 9, .bool b.isOpen] 24 (0, 0))) (bl_8 : W_.heap[bk8]? = some (.cells #[.int .i64 (mic b cal 0), .int .i64 (mic b cal 1), .int .i64 (mic b cal 2), .int .i64 (mic b cal 3), .int .i64 (mic b cal 4), .int .i64 (mic b cal 5), .int .i64 (mic b cal 6), .int .i64 (mic b cal 7), .int .i64 (mic b cal 8)] 76 (0, 0))) (ft_0 : OwnI 0 b.panels g19' c22' W_) (ft_1 : OwnI 0 b.top g20' c23' W_) (ft_2 : OwnI 0 b.bottom g21' c24' W_) (ft_3 : OwnI w.heap.size ([p0 + (dd 0), p1 + (dd 1), p2 + (dd 2), p3 + (dd 3)]) g37' c40' W_) (ft_4 : OwnI w.heap.size ([max 0 (u0 + (dd 4)), max 0 (u1 + (dd 5))]) g39' c42' W_) (ft_5 : OwnI w.heap.size ([zt0, zt1]) g38' c41' W_) (ft_6 : Pp W_ a214' LI.length c215' LI) (lw_bk7 : w.heap.size ≤ bk7) (lw_bk6 : w.heap.size ≤ bk6) (lw_bk0 : w.heap.size ≤ bk0) (lw_bk1 : w.heap.size ≤ bk1) (lw_bk2 : w.heap.size ≤ bk2) (lw_bk3 : w.heap.size ≤ bk3) (lw_bk4 : w.heap.size ≤ bk4) (lw_bk5 : w.heap.size ≤ bk5) (lw_bk8 : w.heap.size ≤ bk8) (ne_0_1 : bk7 ≠ bk6) (ne_0_2 : bk7 ≠ bk0) (ne_1_2 : bk6 ≠ bk0) (ne_0_3 : bk7 ≠ bk1) (ne_1_3 : bk6 ≠ bk1) (ne_2_3 : bk0 ≠ bk1) (ne_0_4 : bk7 ≠ bk2) (ne_1_4 : bk6 ≠ bk2) (ne_2_4 : bk0 ≠ bk2) (ne_3_4 : bk1 ≠ bk2) (ne_0_5 : bk7 ≠ bk3) (ne_1_5 : bk6 ≠ bk3) (ne_2_5 : bk0 ≠ bk3) (ne_3_5 : bk1 ≠ bk3) (ne_4_5 : bk2 ≠ bk3) (ne_0_6 : bk7 ≠ bk4) (ne_1_6 : bk6 ≠ bk4) (ne_2_6 : bk0 ≠ bk4) (ne_3_6 : bk1 ≠ bk4) (ne_4_6 : bk2 ≠ bk4) (ne_5_6 : bk3 ≠ bk4) (ne_0_7 : bk7 ≠ bk5) (ne_1_7 : bk6 ≠ bk5) (ne_2_7 : bk0 ≠ bk5) (ne_3_7 : bk1 ≠ bk5) (ne_4_7 : bk2 ≠ bk5) (ne_5_7 : bk3 ≠ bk5) (ne_6_7 : bk4 ≠ bk5) (ne_0_8 : bk7 ≠ bk8) (ne_1_8 : bk6 ≠ bk8) (ne_2_8 : bk0 ≠ bk8) (ne_3_8 : bk1 ≠ bk8) (ne_4_8 : bk2 ≠ bk8) (ne_5_8 : bk3 ≠ bk8) (ne_6_8 : bk4 ≠ bk8) (ne_7_8 : bk5 ≠ bk8) (ne_0_9 : bk7 ≠ g37') (ne_1_9 : bk6 ≠ g37') (ne_2_9 : bk0 ≠ g37') (ne_3_9 : bk1 ≠ g37') (ne_4_9 : bk2 ≠ g37') (ne_5_9 : bk3 ≠ g37') (ne_6_9 : bk4 ≠ g37') (ne_7_9 : bk5 ≠ g37') (ne_8_9 : bk8 ≠ g37') (ne_0_10 : bk7 ≠ g39') (ne_1_10 : bk6 ≠ g39') (ne_2_10 : bk0 ≠ g39') (ne_3_10 : bk1 ≠ g39') (ne_4_10 : bk2 ≠ g39') (ne_5_10 : bk3 ≠ g39') (ne_6_10 : bk4 ≠ g39') (ne_7_10 : bk5 ≠ g39') (ne_8_10 : bk8 ≠ g39') (ne_9_10 : g37' ≠ g39') (ne_0_11 : bk7 ≠ g38') (ne_1_11 : bk6 ≠ g38') (ne_2_11 : bk0 ≠ g38') (ne_3_11 : bk1 ≠ g38') (ne_4_11 : bk2 ≠ g38') (ne_5_11 : bk3 ≠ g38') (ne_6_11 : bk4 ≠ g38') (ne_7_11 : bk5 ≠ g38') (ne_8_11 : bk8 ≠ g38') (ne_9_11 : g37' ≠ g38') (ne_10_11 : g39' ≠ g38') (zp_0 : zt0 = (if b.isOpen = true then t0 else max 0 (t0 + dd 6))) (zq_0 : zt1 = (if b.isOpen = true then t1 else max 0 (t1 + dd 7))) :
  (tailC 13 (bodyC Tryz.f10)).wp Tryz.prog (bodyPost Tryz.prog Tryz.f10 (fun e w' => e = .returned (.bool true) ∧ Below w.heap.size w w')) (fr 222 g_) W_ := by
 obtain ⟨hlb1, hlb2, hlb3⟩ := (good_nums hck).1
 obtain ⟨hld1, hld2, hld3⟩ := (good_nums hkd).1
 have hL9z : ((LI.length : Int) != 9) = false := by rw [hL9]; rfl
 have hn1n := Int.not_lt.2 hn1
 have hn2n := Int.not_lt.2 hn2
 have gdd0 := gdd 0 (by decide)
 have gdd1 := gdd 1 (by decide)
 have gdd2 := gdd 2 (by decide)
 have gdd3 := gdd 3 (by decide)
 have gdd4 := gdd 4 (by decide)
 have gdd5 := gdd 5 (by decide)
 have gdd6 := gdd 6 (by decide)
 have gdd7 := gdd 7 (by decide)
 have gdd8 := gdd 8 (by decide)
 have lt_bk7 := ltb bl_0
 have lt_bk6 := ltb bl_1
 have lt_bk0 := ltb bl_2
 have lt_bk1 := ltb bl_3
 have lt_bk2 := ltb bl_4
 have lt_bk3 := ltb bl_5
 have lt_bk4 := ltb bl_6
 have lt_bk5 := ltb bl_7
 have lt_bk8 := ltb bl_8
 have lo_ft_3 := ft_3.lim
 have lo_ft_4 := ft_4.lim
 have lo_ft_5 := ft_5.lim
 have lim276' := Pp.lim ft_6
 refine wp_seq_k fun K61 hK61 => ?_
 as_aux_lemma =>
 refine rz 11 [(155, 0), (156, 1), (157, 2), (158, 3), (159, 4), (160, 5), (154, 6), (161, 7), (162, 8), (20, 9), (21, 10)] [[], [0], [], [], [], [1, 2, 3, 4], [5], [6], [6], [7], [8]] (rel [is (.agg #[.int .i64 30, .slice (some ⟨g37', 0, none⟩) 4 c40', .int .i64 (hh + (dd 8)), .slice (some ⟨g38', 0, none⟩) 2 c41', .slice (some ⟨g39', 0, none⟩) 2 c42', .int .i64 9, .bool b.isOpen]), fun v s W => NwBlk (s 1) (sb) v W, is (.agg #[.int .i64 vi.length.1, .int .i64 vi.length.2, .int .i64 vi.width.1, .int .i64 vi.width.2, .int .i64 vi.height.1, .int .i64 vi.height.2, .int .i64 vi.outer.1, .int .i64 vi.outer.2, .int .i64 vi.inner.1, .int .i64 vi.inner.2, .bool vi.isOpen]), is (.agg #[.int .i64 lo, .int .i64 hi]), iI off, is (.tuple #[.int .i64 n, .int .i64 0]), is (.tuple #[.int .i64 n, .int .i64 0]), iI n, iI 0, iI n, iI 0])
  ⟨is_k, ⟨fun v k W W' hb h => h.below hb, fun v s s' W e h => by have h' : NwBlk (s 1) (sb) v W := h; show NwBlk (s' 1) (sb) v W; rw [← e 1 (by simp)]; exact h'⟩, is_k, is_k, is_k, is_k, is_k, is_k, is_k, is_k, is_k, trivial⟩
  ⟨fun f s W hW g i m p a => opl rfl rfl rfl (a.v 11 k_11) (bwb bl_7 hW) Tryz.underlying24 rfl (by kernel_rfl) rfl,
  fun f s W hW g i m p a => opd (args := #[.agg #[.int .i64 30, .slice (some ⟨g37', 0, none⟩) 4 c40', .int .i64 (hh + (dd 8)), .slice (some ⟨g38', 0, none⟩) 2 c41', .slice (some ⟨g39', 0, none⟩) 2 c42', .int .i64 9, .bool b.isOpen]]) rfl rfl (by simp [go_sem, a.e 155 (g 0 rfl)]) (own_lg (hsn.trans (by rw [← zp_0, ← zq_0])) _ _ _ _ _ _ W ((ft_3.below hW)).ii ((ft_5.below hW)).ii ((ft_4.below hW)).ii) (fun e W' h => by obtain ⟨v, e1, h1, h2⟩ := h; exact ⟨v, e1, h2, (show NwBlk (upd s 1 W.heap.size 1) (sb) v W' from by rw [upd_at]; exact h1)⟩),
  fun f s W hW g i m p a => opl rfl rfl rfl (a.v 10 k_10) (bwb bl_6 hW) Tryz.underlying43 rfl (by kernel_rfl) rfl,
  fun f s W hW g i m p a => opv rfl rfl (by simp [go_sem, a.e 8 k_8, cb bl_4 hW 0, cb bl_4 hW 1]) rfl,
  fun f s W hW g i m p a => opv rfl rfl (by simp [go_sem, a.e 9 k_9, cb bl_5 hW 0]) rfl,
  fun f s W hW g i m p a => by obtain ⟨g277', c280', g278', c281', g279', c282', d1, ⟨q283', q285', q284'⟩, ⟨q286', q288', q287'⟩, ⟨q289', q291', q290'⟩⟩ := (g 1 rfl); exact opd (args := #[.agg #[.int .i64 sb.tab, .slice (some ⟨g277', 0, none⟩) (sb.panels.length) c280', .int .i64 sb.height, .slice (some ⟨g278', 0, none⟩) (sb.top.length) c281', .slice (some ⟨g279', 0, none⟩) (sb.bottom.length) c282', .int .i64 sb.slot, .bool sb.isOpen], .agg #[.int .i64 vi.length.1, .int .i64 vi.length.2, .int .i64 vi.width.1, .int .i64 vi.width.2, .int .i64 vi.height.1, .int .i64 vi.height.2, .int .i64 vi.outer.1, .int .i64 vi.outer.2, .int .i64 vi.inner.1, .int .i64 vi.inner.2, .bool vi.isOpen], .agg #[.int .i64 lo, .int .i64 hi], .int .i64 off]) rfl rfl (by simp [go_sem, a.e 156 d1, a.e 157 (g 2 rfl), a.e 158 (g 3 rfl), a.e 159 (g 4 rfl)]) (may_blk (b := sb) vi lo hi off W ⟨_, _, _, _, _, _, _, _, _, rfl, q283', q286', q289'⟩) ((fun e W' h => by have h1 := h.1; rw [hM] at h1; exact ⟨_, h1, h.2, rfl⟩)),
  fun f s W hW g i m p a => opm (a.v 160 (g 5 rfl)),
  fun f s W hW g i m p a => opv rfl rfl (by simp [go_sem, a.e 154 (g 6 rfl)]) rfl,
  fun f s W hW g i m p a => opv rfl rfl (by simp [go_sem, a.e 154 (g 6 rfl)]) rfl,
  fun f s W hW g i m p a => opm (a.v 161 (g 7 rfl)),
  fun f s W hW g i m p a => opm (a.v 162 (g 8 rfl)), trivial⟩ ?_
 intro f55 s55 W55 hB55 g55 hg55 z55
 have b55_4 := hB55.b bl_4
 have q292' := (ft_0.below hB55.below)
 have q293' := (ft_1.below hB55.below)
 have q294' := (ft_2.below hB55.below)
 have q295' := (ft_3.below hB55.below)
 have q296' := (ft_4.below hB55.below)
 have q297' := (ft_5.below hB55.below)
 have q298' := (ft_6.bw hB55)
 refine hK61 _ _ ?_
 have k55_8 := kt hg55 8 k_8
 have k55_15 := kt hg55 15 k_15
 have k55_20 := kt hg55 20 (hB55.is 9)
 have k55_21 := kt hg55 21 (hB55.is 10)
 refine wp_seq_k fun K62 hK62 => ?_
 refine wp_seq_k fun K63 hK63 => ?_
 as_aux_lemma =>
 refine ry 13 [(163, 0), (164, 1), (165, 2), (166, 3), (167, 4), (168, 5), (169, 6), (170, 7), (171, 8), (172, 9), (173, 10), (174, 11), (175, 12)] [[], [0], [1], [2], [2], [2, 4], [2, 3, 5], [2, 6], [7], [8], [8], [8, 9, 10], [8, 11]] (rel [iI 0, iB false, iB false, iI n, is (.pointer (some ⟨bk2, 0, none⟩)), iI lo, iB false, iB false, iB false, iI n, iI cal, iB false, iB false])
  ⟨fun f s W hW g i m p a => opm (a.v 21 k55_21),
  fun f s W hW g i m p a => opv rfl rfl (by simp [go_sem, a.e 163 (g 0 rfl)]) rfl,
  fun f s W hW g i m p a => opm (a.v 164 (g 1 rfl)),
  fun f s W hW g i m p a => osure rfl rfl (a.says (d := 165) rfl rfl (g 2 rfl)) (gv (by simp [go_sem, a.e 20 k55_20]) rfl),
  fun f s W hW g i m p a => osure rfl rfl (a.says (d := 165) rfl rfl (g 2 rfl)) (gv (by simp [go_sem, a.e 8 k55_8]) rfl),
  fun f s W hW g i m p a => osure rfl rfl (a.says (d := 165) rfl rfl (g 2 rfl)) (gv (by simp [go_sem, a.e 167 (g 4 rfl), cb b55_4 hW 0]) rfl),
  fun f s W hW g i m p a => osure rfl rfl (a.says (d := 165) rfl rfl (g 2 rfl)) (gv (by simp [go_sem, a.e 166 (g 3 rfl), a.e 168 (g 5 rfl), hn1n]) rfl),
  fun f s W hW g i m p a => opk (c := false) rfl rfl (fun _ => by simp [go_sem, a.e 165 (g 2 rfl), a.e 169 (g 6 rfl)]) (fun h => absurd h (by decide)),
  fun f s W hW g i m p a => opm (a.v 170 (g 7 rfl)),
  fun f s W hW g i m p a => osure rfl rfl (a.says (d := 171) rfl rfl (g 8 rfl)) (gv (by simp [go_sem, a.e 20 k55_20]) rfl),
  fun f s W hW g i m p a => osure rfl rfl (a.says (d := 171) rfl rfl (g 8 rfl)) (gv (by simp [go_sem, a.e 15 k55_15]) rfl),
  fun f s W hW g i m p a => osure rfl rfl (a.says (d := 171) rfl rfl (g 8 rfl)) (gv (by simp [go_sem, a.e 172 (g 9 rfl), a.e 173 (g 10 rfl), hn2n]) rfl),
  fun f s W hW g i m p a => opk (c := false) rfl rfl (fun _ => by simp [go_sem, a.e 171 (g 8 rfl), a.e 174 (g 11 rfl)]) (fun h => absurd h (by decide)), trivial⟩ ?_
 intro f56 s56 W56 hB56 g56 hg56 z56
 have b56_3 := hB56.b (hB55.b bl_3)
 have b56_4 := hB56.b b55_4
 have b56_6 := hB56.b (hB55.b bl_6)
 have q299' := (q292'.below hB56.below)
 have q300' := (q293'.below hB56.below)
 have q301' := (q294'.below hB56.below)
 have q302' := (q295'.below hB56.below)
 have q303' := (q296'.below hB56.below)
 have q304' := (q297'.below hB56.below)
 have q305' := (q298'.bw hB56)
 refine hK63 _ _ ?_
 have k56_7 := kt hg56 7 (kt hg55 7 k_7)
 have k56_8 := kt hg56 8 k55_8
 have k56_10 := kt hg56 10 (kt hg55 10 k_10)
 have k56_15 := kt hg56 15 k55_15
 have k56_175 := kt hg56 175 (hB56.is 12)
 refine wp_cond_false ((fr_eval rfl).trans k56_175) ?_
 refine wp_skip ?_
 refine hK62 _ _ ?_
 refine wp_seq_k fun K65 hK65 => ?_
 as_aux_lemma =>
 refine rz 13 [(177, 0), (178, 1), (179, 2), (180, 3), (181, 4), (182, 5), (183, 6), (184, 7), (176, 8), (185, 9), (186, 10), (22, 11), (23, 12)] [[], [0], [], [], [], [4], [3, 5], [1, 2, 6], [7], [8], [8], [9], [10]] (rel [is (.agg #[.int .i64 b.tab, .slice (some ⟨g19', 0, none⟩) (b.panels.length) c22', .int .i64 b.height, .slice (some ⟨g20', 0, none⟩) (b.top.length) c23', .slice (some ⟨g21', 0, none⟩) (b.bottom.length) c24', .int .i64 b.slot, .bool b.isOpen]), fun v s W => NwBlk (s 1) (b) v W, is (.agg #[.int .i64 vi.length.1, .int .i64 vi.length.2, .int .i64 vi.width.1, .int .i64 vi.width.2, .int .i64 vi.height.1, .int .i64 vi.height.2, .int .i64 vi.outer.1, .int .i64 vi.outer.2, .int .i64 vi.inner.1, .int .i64 vi.inner.2, .bool vi.isOpen]), iI cal, is (.pointer (some ⟨bk2, 1, none⟩)), iI hi, is (.agg #[.int .i64 cal, .int .i64 hi]), is (.tuple #[.int .i64 cal, .int .i64 0]), is (.tuple #[.int .i64 cal, .int .i64 0]), iI cal, iI 0, iI cal, iI 0])
  ⟨is_k, ⟨fun v k W W' hb h => h.below hb, fun v s s' W e h => by have h' : NwBlk (s 1) (b) v W := h; show NwBlk (s' 1) (b) v W; rw [← e 1 (by simp)]; exact h'⟩, is_k, is_k, is_k, is_k, is_k, is_k, is_k, is_k, is_k, is_k, is_k, trivial⟩
  ⟨fun f s W hW g i m p a => opl rfl rfl rfl (a.v 7 k56_7) (bwb b56_3 hW) Tryz.underlying24 rfl (by kernel_rfl) rfl,
  fun f s W hW g i m p a => opd (args := #[.agg #[.int .i64 b.tab, .slice (some ⟨g19', 0, none⟩) (b.panels.length) c22', .int .i64 b.height, .slice (some ⟨g20', 0, none⟩) (b.top.length) c23', .slice (some ⟨g21', 0, none⟩) (b.bottom.length) c24', .int .i64 b.slot, .bool b.isOpen]]) rfl rfl (by simp [go_sem, a.e 177 (g 0 rfl)]) (own_any _ _ _ _ _ _ b W ((q299'.below hW)).ii ((q300'.below hW)).ii ((q301'.below hW)).ii n1 n2 n3) (fun e W' h => by obtain ⟨v, e1, h1, h2⟩ := h; exact ⟨v, e1, h2, (show NwBlk (upd s 1 W.heap.size 1) (b) v W' from by rw [upd_at]; exact h1)⟩),
  fun f s W hW g i m p a => opl rfl rfl rfl (a.v 10 k56_10) (bwb b56_6 hW) Tryz.underlying43 rfl (by kernel_rfl) rfl,
  fun f s W hW g i m p a => opm (a.v 15 k56_15),
  fun f s W hW g i m p a => opv rfl rfl (by simp [go_sem, a.e 8 k56_8]) rfl,
  fun f s W hW g i m p a => opv rfl rfl (by simp [go_sem, a.e 181 (g 4 rfl), cb b56_4 hW 1]) rfl,
  fun f s W hW g i m p a => opc rfl rfl (by simp [go_sem, a.e 180 (g 3 rfl), a.e 182 (g 5 rfl)]) (span_any (cal) (hi) W),
  fun f s W hW g i m p a => by obtain ⟨g306', c309', g307', c310', g308', c311', d1, ⟨q312', q314', q313'⟩, ⟨q315', q317', q316'⟩, ⟨q318', q320', q319'⟩⟩ := (g 1 rfl); exact opd (args := #[.agg #[.int .i64 b.tab, .slice (some ⟨g306', 0, none⟩) (b.panels.length) c309', .int .i64 b.height, .slice (some ⟨g307', 0, none⟩) (b.top.length) c310', .slice (some ⟨g308', 0, none⟩) (b.bottom.length) c311', .int .i64 b.slot, .bool b.isOpen], .agg #[.int .i64 vi.length.1, .int .i64 vi.length.2, .int .i64 vi.width.1, .int .i64 vi.width.2, .int .i64 vi.height.1, .int .i64 vi.height.2, .int .i64 vi.outer.1, .int .i64 vi.outer.2, .int .i64 vi.inner.1, .int .i64 vi.inner.2, .bool vi.isOpen], .agg #[.int .i64 cal, .int .i64 hi], .int .i64 0]) rfl rfl (by simp [go_sem, a.e 178 d1, a.e 179 (g 2 rfl), a.e 183 (g 6 rfl)]) (may_blk (b := b) vi cal hi 0 W ⟨_, _, _, _, _, _, _, _, _, rfl, q312', q315', q318'⟩) ((fun e W' h => by have h1 := h.1; rw [hM2] at h1; exact ⟨_, h1, h.2, rfl⟩)),
  fun f s W hW g i m p a => opm (a.v 184 (g 7 rfl)),
  fun f s W hW g i m p a => opv rfl rfl (by simp [go_sem, a.e 176 (g 8 rfl)]) rfl,
  fun f s W hW g i m p a => opv rfl rfl (by simp [go_sem, a.e 176 (g 8 rfl)]) rfl,
  fun f s W hW g i m p a => opm (a.v 185 (g 9 rfl)),
  fun f s W hW g i m p a => opm (a.v 186 (g 10 rfl)), trivial⟩ ?_
 intro f57 s57 W57 hB57 g57 hg57 z57
 have fB57 := hB57.f (hB56.f (hB55.f fB_))
 have b57_3 := hB57.b b56_3
 have b57_4 := hB57.b b56_4
 have b57_6 := hB57.b b56_6
 have q321' := (q299'.below hB57.below)
 have q322' := (q300'.below hB57.below)
 have q323' := (q301'.below hB57.below)
 have q324' := (q302'.below hB57.below)
 have q325' := (q303'.below hB57.below)
 have q326' := (q304'.below hB57.below)
 have q327' := (q305'.bw hB57)
 refine hK65 _ _ ?_
 have k57_7 := kt hg57 7 k56_7
 have k57_10 := kt hg57 10 k56_10
 refine wp_seq_k fun K66 hK66 => ?_
 as_aux_lemma =>
 refine region_doL (LeT (W57.heap.size) 26 (justC (#[.int .i64 q1, .int .i64 q2]))) LeT.refl (LeT.drew justC_b) LeT.trans (fun _ _ h => h.size) 9 [(188, 0), (189, 1), (190, 2), (191, 3), (187, 4), (192, 5), (193, 6), (24, 7), (25, 9)] [[], [0], [], [0, 1, 2], [0, 1, 2, 3], [0, 1, 2, 3, 4], [0, 1, 2, 3, 4], [], [0, 1, 2, 3, 4, 5, 7], [0, 1, 2, 3, 4, 5, 6, 7, 8]] (rel [is (.agg #[.int .i64 b.tab, .slice (some ⟨g19', 0, none⟩) (b.panels.length) c22', .int .i64 b.height, .slice (some ⟨g20', 0, none⟩) (b.top.length) c23', .slice (some ⟨g21', 0, none⟩) (b.bottom.length) c24', .int .i64 b.slot, .bool b.isOpen]),
   ab fun v W => TyBlk 0 b v W,
   is (.agg #[.int .i64 vi.length.1, .int .i64 vi.length.2, .int .i64 vi.width.1, .int .i64 vi.width.2, .int .i64 vi.height.1, .int .i64 vi.height.2, .int .i64 vi.outer.1, .int .i64 vi.outer.2, .int .i64 vi.inner.1, .int .i64 vi.inner.2, .bool vi.isOpen]),
   is (.tuple #[.agg #[.int .i64 q1, .int .i64 q2], .int .i64 0]),
   is (.tuple #[.agg #[.int .i64 q1, .int .i64 q2], .int .i64 0]),
   is (.agg #[.int .i64 q1, .int .i64 q2]),
   is (.int .i64 0),
   boxT (W57.heap.size) 26 2 7,
   stoT (W57.heap.size) 26 (justC (#[.int .i64 q1, .int .i64 q2])) 7]) (by kernel_rfl) (by kernel_rfl) (by kernel_rfl) (by kernel_rfl)
  ⟨is_kl, ty_k, is_kl, is_kl, is_kl, is_kl, is_kl, boxT_k, stoT_k (by simp), trivial⟩
  ⟨fun f s W hT g i m p a => by have hW := LeT.below hT (Nat.le_refl _); exact OpDo.l (LeT.of_below justC_b) (opl rfl rfl rfl (a.v 7 k57_7) (bwb b57_3 hW) Tryz.underlying24 rfl (by kernel_rfl) rfl),
  fun f s W hT g i m p a => by have hW := LeT.below hT (Nat.le_refl _); exact OpDo.l (LeT.of_below justC_b) (opd (args := #[.agg #[.int .i64 b.tab, .slice (some ⟨g19', 0, none⟩) (b.panels.length) c22', .int .i64 b.height, .slice (some ⟨g20', 0, none⟩) (b.top.length) c23', .slice (some ⟨g21', 0, none⟩) (b.bottom.length) c24', .int .i64 b.slot, .bool b.isOpen]]) rfl rfl (by simp [go_sem, a.e 188 (g 0 rfl)]) (own_ty _ _ _ _ _ _ b W ((q321'.below hW)).ii ((q322'.below hW)).ii ((q323'.below hW)).ii hck) ((fun e W' h => by obtain ⟨v, e1, h1, h2⟩ := h; exact ⟨_, e1, h2, h1.low (Nat.zero_le _)⟩))),
  fun f s W hT g i m p a => by have hW := LeT.below hT (Nat.le_refl _); exact OpDo.l (LeT.of_below justC_b) (opl rfl rfl rfl (a.v 10 k57_10) (bwb b57_6 hW) Tryz.underlying43 rfl (by kernel_rfl) rfl),
  fun f s W hT g i m p a => by have hW := LeT.below hT (Nat.le_refl _); exact OpDo.l (LeT.of_below justC_b) (by obtain ⟨g328', c331', g329', c332', g330', c333', d1, q334', q335', q336'⟩ := (g 1 rfl); exact opd (args := #[.agg #[.int .i64 b.tab, .slice (some ⟨g328', 0, none⟩) (b.panels.length) c331', .int .i64 b.height, .slice (some ⟨g329', 0, none⟩) (b.top.length) c332', .slice (some ⟨g330', 0, none⟩) (b.bottom.length) c333', .int .i64 b.slot, .bool b.isOpen], .agg #[.int .i64 vi.length.1, .int .i64 vi.length.2, .int .i64 vi.width.1, .int .i64 vi.width.2, .int .i64 vi.height.1, .int .i64 vi.height.2, .int .i64 vi.outer.1, .int .i64 vi.outer.2, .int .i64 vi.inner.1, .int .i64 vi.inner.2, .bool vi.isOpen]]) rfl rfl (by simp [go_sem, a.e 189 d1, a.e 190 (g 2 rfl)]) (cal_ok vi W ⟨_, _, _, _, _, _, _, _, _, rfl, q334'.ii, q335'.ii, q336'.ii⟩) ((fun e W' h => by have h1 := h.1; rw [hq, hF] at h1; exact ⟨_, h1, h.2, rfl⟩))),
  fun f s W hT g i m p a => by have hW := LeT.below hT (Nat.le_refl _); exact OpDo.l (LeT.of_below justC_b) (opv rfl rfl (by simp [go_sem, a.e 191 (g 3 rfl)]) rfl),
  fun f s W hT g i m p a => by have hW := LeT.below hT (Nat.le_refl _); exact OpDo.l (LeT.of_below justC_b) (opv rfl rfl (by simp [go_sem, a.e 187 (g 4 rfl)]) rfl),
  fun f s W hT g i m p a => by have hW := LeT.below hT (Nat.le_refl _); exact OpDo.l (LeT.of_below justC_b) (opv rfl rfl (by simp [go_sem, a.e 187 (g 4 rfl)]) rfl),
  fun f s W hT g i m p a => opT (cs := #[.int .i64 0, .int .i64 0]) justC_b (hT.size) rfl rfl (by simp [go_sem]) rfl,
  fun f s W hT g i m p a => by exact stoT_do (#[.int .i64 q1, .int .i64 q2]) rfl (by decide) (g 7 rfl) (a.v 24 (g 7 rfl).1) (a.v 192 (g 5 rfl)) rfl rfl (by rfl) (by rfl) ((rfl : justC (#[.int .i64 q1, .int .i64 q2]) (#[.int .i64 q1, .int .i64 q2]) W)) (fun _ _ _ h => h) (fun _ _ _ _ _ h => h), trivial⟩ ?_
 intro f58 s58 W58 hB58
 have hb58 := LeT.below hB58.le (Nat.le_refl _)
 have fB58 := bwt fB57 hb58
 have z58 : W57.heap.size ≤ W58.heap.size := hb58.size
 have b58_4 := bwb b57_4 hb58
 have q337' := (q321'.below hb58)
 have q338' := (q322'.below hb58)
 have q339' := (q323'.below hb58)
 have q340' := (q324'.below hb58)
 have q341' := (q325'.below hb58)
 have q342' := (q326'.below hb58)
 have q343' := (q327'.below hb58 (Nat.le_refl _))
 obtain ⟨r58_7, lb58, -⟩ := hB58.is 7
 obtain ⟨-, cs58, bs58, hG58⟩ := hB58.is 8
 have hG58' : cs58 = #[.int .i64 q1, .int .i64 q2] := hG58
 subst hG58'
 have lr58_7 : W57.heap.size ≤ s58 7 ∧ s58 7 < W58.heap.size := ⟨lb58, ltb bs58⟩
 generalize hg58 : ov [(188, 0), (189, 1), (190, 2), (191, 3), (187, 4), (192, 5), (193, 6), (24, 7), (25, 9)] f58 g57 = g58
 have k58_193 := kt hg58 193 (hB58.is 6)
 refine tail_value (o := _) rfl rfl rfl (v := .int .i64 0) (by simp [go_sem, frv 222 k58_193]) ?_
 generalize hg59 : upd g58 25 (.int .i64 0) = g59
 have k59_8 := ku hg59 8 (kt hg58 8 (kt hg57 8 k56_8))
 have k59_15 := ku hg59 15 (kt hg58 15 (kt hg57 15 k56_15))
 have k59_22 := ku hg59 22 (kt hg58 22 (kt hg57 22 (hB57.is 11)))
 have k59_23 := ku hg59 23 (kt hg58 23 (kt hg57 23 (hB57.is 12)))
 have k59_24 := ku hg59 24 (kt hg58 24 r58_7)
 have k59_25 := kt hg59 25 (upd_same _ _ _)
 refine wpe ?_
 refine hK66 _ _ ?_
 refine wp_seq_k fun K67 hK67 => ?_
 as_aux_lemma =>
 refine ry 29 [(194, 0), (195, 1), (196, 2), (197, 3), (198, 4), (199, 5), (200, 6), (201, 7), (202, 8), (203, 9), (204, 10), (205, 11), (206, 12), (207, 13), (208, 14), (209, 15), (210, 16), (211, 17), (212, 18), (213, 19), (214, 20), (215, 21), (216, 22), (217, 23), (218, 24), (219, 25), (220, 26), (221, 27), (6, 28)] [[], [0], [1], [2], [2], [2, 3, 4], [2, 5], [6], [7], [7, 8], [7, 9], [10], [11], [11, 12], [11], [11, 14], [11, 13, 15], [11, 16], [17], [18], [18, 19], [18], [18, 21], [18, 20, 22], [18, 23], [24], [25], [25, 26], [27]] (rel [iI 0, iB true, iB true, iI cal, iI cal, iB true, iB true, iB true, iI 0, iB true, iB true, iB true, is (.pointer (some ⟨(s58 7), 0, none⟩)), iI q1, is (.pointer (some ⟨bk2, 0, none⟩)), iI lo, iB true, iB true, iB true, is (.pointer (some ⟨(s58 7), 1, none⟩)), iI q2, is (.pointer (some ⟨bk2, 1, none⟩)), iI hi, iB true, iB true, iB true, iB true, iB true, iB true])
  ⟨fun f s W hW g i m p a => opm (a.v 23 k59_23),
  fun f s W hW g i m p a => opv rfl rfl (by simp [go_sem, a.e 194 (g 0 rfl)]) rfl,
  fun f s W hW g i m p a => opm (a.v 195 (g 1 rfl)),
  fun f s W hW g i m p a => osure rfl rfl (a.says (d := 196) rfl rfl (g 2 rfl)) (gv (by simp [go_sem, a.e 22 k59_22]) rfl),
  fun f s W hW g i m p a => osure rfl rfl (a.says (d := 196) rfl rfl (g 2 rfl)) (gv (by simp [go_sem, a.e 15 k59_15]) rfl),
  fun f s W hW g i m p a => osure rfl rfl (a.says (d := 196) rfl rfl (g 2 rfl)) (gv (by simp [go_sem, a.e 197 (g 3 rfl), a.e 198 (g 4 rfl)]) rfl),
  fun f s W hW g i m p a => opk (c := true) rfl rfl (fun h => absurd h (by decide)) (fun _ => by simp [go_sem, a.e 196 (g 2 rfl), a.e 199 (g 5 rfl)]),
  fun f s W hW g i m p a => opm (a.v 200 (g 6 rfl)),
  fun f s W hW g i m p a => osure rfl rfl (a.says (d := 201) rfl rfl (g 7 rfl)) (gv (by simp [go_sem, a.e 25 k59_25]) rfl),
  fun f s W hW g i m p a => osure rfl rfl (a.says (d := 201) rfl rfl (g 7 rfl)) (gv (by simp [go_sem, a.e 202 (g 8 rfl)]) rfl),
  fun f s W hW g i m p a => opk (c := true) rfl rfl (fun h => absurd h (by decide)) (fun _ => by simp [go_sem, a.e 201 (g 7 rfl), a.e 203 (g 9 rfl)]),
  fun f s W hW g i m p a => opm (a.v 204 (g 10 rfl)),
  fun f s W hW g i m p a => osure rfl rfl (a.says (d := 205) rfl rfl (g 11 rfl)) (gv (by simp [go_sem, a.e 24 k59_24]) rfl),
  fun f s W hW g i m p a => osure rfl rfl (a.says (d := 205) rfl rfl (g 11 rfl)) (gv (by simp [go_sem, a.e 206 (g 12 rfl), cb bs58 hW 0]) rfl),
  fun f s W hW g i m p a => osure rfl rfl (a.says (d := 205) rfl rfl (g 11 rfl)) (gv (by simp [go_sem, a.e 8 k59_8]) rfl),
  fun f s W hW g i m p a => osure rfl rfl (a.says (d := 205) rfl rfl (g 11 rfl)) (gv (by simp [go_sem, a.e 208 (g 14 rfl), cb b58_4 hW 0]) rfl),
  fun f s W hW g i m p a => osure rfl rfl (a.says (d := 205) rfl rfl (g 11 rfl)) (gv (by simp [go_sem, a.e 207 (g 13 rfl), a.e 209 (g 15 rfl), hq1]) rfl),
  fun f s W hW g i m p a => opk (c := true) rfl rfl (fun h => absurd h (by decide)) (fun _ => by simp [go_sem, a.e 205 (g 11 rfl), a.e 210 (g 16 rfl)]),
  fun f s W hW g i m p a => opm (a.v 211 (g 17 rfl)),
  fun f s W hW g i m p a => osure rfl rfl (a.says (d := 212) rfl rfl (g 18 rfl)) (gv (by simp [go_sem, a.e 24 k59_24]) rfl),
  fun f s W hW g i m p a => osure rfl rfl (a.says (d := 212) rfl rfl (g 18 rfl)) (gv (by simp [go_sem, a.e 213 (g 19 rfl), cb bs58 hW 1]) rfl),
  fun f s W hW g i m p a => osure rfl rfl (a.says (d := 212) rfl rfl (g 18 rfl)) (gv (by simp [go_sem, a.e 8 k59_8]) rfl),
  fun f s W hW g i m p a => osure rfl rfl (a.says (d := 212) rfl rfl (g 18 rfl)) (gv (by simp [go_sem, a.e 215 (g 21 rfl), cb b58_4 hW 1]) rfl),
  fun f s W hW g i m p a => osure rfl rfl (a.says (d := 212) rfl rfl (g 18 rfl)) (gv (by simp [go_sem, a.e 214 (g 20 rfl), a.e 216 (g 22 rfl), hq2]) rfl),
  fun f s W hW g i m p a => opk (c := true) rfl rfl (fun h => absurd h (by decide)) (fun _ => by simp [go_sem, a.e 212 (g 18 rfl), a.e 217 (g 23 rfl)]),
  fun f s W hW g i m p a => opm (a.v 218 (g 24 rfl)),
  fun f s W hW g i m p a => osure rfl rfl (a.says (d := 219) rfl rfl (g 25 rfl)) (gc (by simp [go_sem]) (known_any W)),
  fun f s W hW g i m p a => opk (c := true) rfl rfl (fun h => absurd h (by decide)) (fun _ => by simp [go_sem, a.e 219 (g 25 rfl), a.e 220 (g 26 rfl)]),
  fun f s W hW g i m p a => opm (a.v 221 (g 27 rfl)), trivial⟩ ?_
 intro f60 s60 W60 hB60 g60 hg60 z60
 have fB60 := hB60.f fB58
 have q344' := (q337'.below hB60.below)
 have q345' := (q338'.below hB60.below)
 have q346' := (q339'.below hB60.below)
 have q347' := (q340'.below hB60.below)
 have q348' := (q341'.below hB60.below)
 have q349' := (q342'.below hB60.below)
 have q350' := (q343'.bw hB60)
 refine hK67 _ _ ?_
 have k60_6 := kt hg60 6 (hB60.is 28)
 refine wp_ret ?_
 refine leave_one (N := 222) (.inr rfl) Tryz.results10 rfl k60_6 ?_
 exact ⟨rfl, fB60⟩
end Go.Proofs.YthnediamopehfaaGreat
