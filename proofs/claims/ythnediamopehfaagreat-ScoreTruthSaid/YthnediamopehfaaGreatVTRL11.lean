/- Part of the proof: what the claim leans on. -/
import Derived.Test.YthnediamopehfaaGreatVTRS10
set_option maxHeartbeats 60000000
set_option maxRecDepth 100000
set_option linter.unusedSimpArgs false
set_option linter.unusedVariables false
namespace Go.Proofs.YthnediamopehfaaGreat
open Go.RowKit
theorem truth_main (x : Sh) (gx : ShIn x) (ws : Nat → Int) (v0 v1 : Int) (gv0 : 0 ≤ v0 ∧ v0 ≤ 255) (gv1 : 0 ≤ v1 ∧ v1 ≤ 255) (b d sb : Bl) (vi : Wi) (p0 p1 p2 p3 hh t0 t1 u0 u1 lo hi off cal q1 q2 n : Int) (dd : Nat → Int) (LI : List Sp) (w : World) (gws : ∀ j, j < 9 → -128 ≤ ws j ∧ ws j ≤ 127) (hbx : shBl x = d) (ht : twinB d = b) (hcx : shCal x = (lo, hi)) (hto : b.isOpen = vi.isOpen) (hv : wishOf x b lo hi = vi) (hkd : checkErr d = 0) (hck : checkErr b = 0) (hcs : checkErr sb = 0) (hwv : wishErr vi = 0) (hof : v0 % 6 = off) (gof : 0 ≤ off ∧ off ≤ 5) (hdd : ∀ j, j < 9 → (ws j).tmod (off + 1) = dd j) (gdd : ∀ j, j < 9 → -5 ≤ dd j ∧ dd j ≤ 5) (hbl : b = ⟨30, [p0, p1, p2, p3], hh, [t0, t1], [u0, u1], 9, b.isOpen⟩) (hsn : sb = ⟨30, [p0 + (dd 0), p1 + (dd 1), p2 + (dd 2), p3 + (dd 3)], hh + (dd 8), [if b.isOpen = true then t0 else max 0 (t0 + dd 6), if b.isOpen = true then t1 else max 0 (t1 + dd 7)], [max 0 (u0 + (dd 4)), max 0 (u1 + (dd 5))], 9, b.isOpen⟩) (gp0 : 0 ≤ p0 ∧ p0 ≤ 1000) (gp1 : 0 ≤ p1 ∧ p1 ≤ 1000) (gp2 : 0 ≤ p2 ∧ p2 ≤ 1000) (gp3 : 0 ≤ p3 ∧ p3 ≤ 1000) (ghh : 0 ≤ hh ∧ hh ≤ 1000) (gt0 : 0 ≤ t0 ∧ t0 ≤ 1000) (gt1 : 0 ≤ t1 ∧ t1 ≤ 1000) (gu0 : 0 ≤ u0 ∧ u0 ≤ 1000) (gu1 : 0 ≤ u1 ∧ u1 ≤ 1000) (j1 : 1 ≤ lo) (j2 : lo ≤ hi) (j3 : hi ≤ 10000) (gmu : 0 ≤ v1 * (hi - lo) ∧ v1 * (hi - lo) ≤ 255 * (hi - lo)) (hcal : lo + ((v1 * (hi - lo)) / 255) = cal) (gcal : lo ≤ cal ∧ cal ≤ hi) (hLI : innerL sb (lo, hi) off = LI) (hL9 : LI.length = 9) (hmic : ∀ j, j < 9 → (nthP LI j).1 ≤ mic b cal j ∧ mic b cal j ≤ (nthP LI j).2) (hM : mayOf sb vi lo hi off = (n, 0)) (hn1 : lo ≤ n) (hn2 : n ≤ cal) (hM2 : mayOf b vi cal hi 0 = (cal, 0)) (hF : calErr b vi = 0) (hq : calOf b vi = (q1, q2)) (hq1 : q1 ≤ lo) (hq2 : hi ≤ q2) (n1 : b.panels.length ≤ 1000) (n2 : b.top.length ≤ 1000) (n3 : b.bottom.length ≤ 1000) :
  Calls Tryz.prog 10 #[.agg #[.int .u8 x.x0, .int .u8 x.x1, .int .u8 x.x2, .int .u8 x.x3, .int .u8 x.xh, .int .u8 x.y0, .int .u8 x.y1, .int .u8 x.y2, .int .u8 x.y3, .bool x.xo, .int .u8 x.ca, .int .u8 x.cb, .int .u8 x.v0, .int .u8 x.v1, .int .u8 x.v2, .int .u8 x.v3, .int .u8 x.v4], .agg #[.int .i8 ((ws 0)), .int .i8 ((ws 1)), .int .i8 ((ws 2)), .int .i8 ((ws 3)), .int .i8 ((ws 4)), .int .i8 ((ws 5)), .int .i8 ((ws 6)), .int .i8 ((ws 7)), .int .i8 ((ws 8))], .agg #[.int .u8 v0, .int .u8 v1]] w (fun e w' => e = .returned (.bool true) ∧ Below w.heap.size w w') := by
 obtain ⟨hlb1, hlb2, hlb3⟩ := (good_nums hck).1
 obtain ⟨hld1, hld2, hld3⟩ := (good_nums hkd).1
 have hL9z : ((LI.length : Int) != 9) = false := by rw [hL9]; rfl
 have hn1n := Int.not_lt.2 hn1
 have hn2n := Int.not_lt.2 hn2
 have gdd0 := gdd 0 (by decide)
 have gdd1 := gdd 1 (by decide)
 have gdd2 := gdd 2 (by decide)
 have gdd3 := gdd 3 (by decide)
 have gdd4 := gdd 4 (by decide)
 have gdd5 := gdd 5 (by decide)
 have gdd6 := gdd 6 (by decide)
 have gdd7 := gdd 7 (by decide)
 have gdd8 := gdd 8 (by decide)
 refine calls_fr Tryz.func10 Tryz.ntmps10 rfl rfl fun g hg => ?_
 have k0 : g 0 = .agg #[.int .u8 x.x0, .int .u8 x.x1, .int .u8 x.x2, .int .u8 x.x3, .int .u8 x.xh, .int .u8 x.y0, .int .u8 x.y1, .int .u8 x.y2, .int .u8 x.y3, .bool x.xo, .int .u8 x.ca, .int .u8 x.cb, .int .u8 x.v0, .int .u8 x.v1, .int .u8 x.v2, .int .u8 x.v3, .int .u8 x.v4] := hg 0
 have k1 : g 1 = .agg #[.int .i8 ((ws 0)), .int .i8 ((ws 1)), .int .i8 ((ws 2)), .int .i8 ((ws 3)), .int .i8 ((ws 4)), .int .i8 ((ws 5)), .int .i8 ((ws 6)), .int .i8 ((ws 7)), .int .i8 ((ws 8))] := hg 1
 have k2 : g 2 = .agg #[.int .u8 v0, .int .u8 v1] := hg 2
 clear hg
 have fB0 : Below w.heap.size w w := Below.refl _ _
 refine wp_seq_k fun K1 hK1 => ?_
 as_aux_lemma =>
 refine ry 4 [(3, 0), (4, 1), (5, 2), (6, 3)] [[], [], [], []] (rel [bx 0 #[.int .u8 x.x0, .int .u8 x.x1, .int .u8 x.x2, .int .u8 x.x3, .int .u8 x.xh, .int .u8 x.y0, .int .u8 x.y1, .int .u8 x.y2, .int .u8 x.y3, .bool x.xo, .int .u8 x.ca, .int .u8 x.cb, .int .u8 x.v0, .int .u8 x.v1, .int .u8 x.v2, .int .u8 x.v3, .int .u8 x.v4] 72, bx 1 #[.int .i8 ((ws 0)), .int .i8 ((ws 1)), .int .i8 ((ws 2)), .int .i8 ((ws 3)), .int .i8 ((ws 4)), .int .i8 ((ws 5)), .int .i8 ((ws 6)), .int .i8 ((ws 7)), .int .i8 ((ws 8))] 85, bx 2 #[.int .u8 v0, .int .u8 v1] 69, iB false])
  ⟨fun f s W hW m p q r a => opb rfl rfl (by simp [go_sem, a.e 0 k0]),
  fun f s W hW m p q r a => opb rfl rfl (by simp [go_sem, a.e 1 k1]),
  fun f s W hW m p q r a => opb rfl rfl (by simp [go_sem, a.e 2 k2]),
  fun f s W hW m p q r a => opz, trivial⟩ ?_
 intro f1 s1 W1 hB1 g1 hg1 z1
 have fB1 := hB1.f fB0
 obtain ⟨r1_0, br1_0⟩ := hB1.is 0
 have lr1_0 := hB1.lr 0 br1_0
 obtain ⟨r1_1, br1_1⟩ := hB1.is 1
 have lr1_1 := hB1.lr 1 br1_1
 obtain ⟨r1_2, br1_2⟩ := hB1.is 2
 have lr1_2 := hB1.lr 2 br1_2
 have ne1_0_1 := hB1.nb 0 1
 have ne1_0_2 := hB1.nb 0 2
 have ne1_1_2 := hB1.nb 1 2
 refine hK1 _ _ ?_
 have k1_3 := kt hg1 3 r1_0
 have k1_5 := kt hg1 5 r1_2
 refine wp_seq_k fun K2 hK2 => ?_
 as_aux_lemma =>
 refine region_doL (LeK (W1.heap.size) (twoT 24 26) (twoG 24 (b) (#[.int .i64 lo, .int .i64 hi]))) LeK.refl (LeK.drew twoG_b) LeK.trans (fun _ _ h => h.size) 14 [(26, 0), (27, 1), (28, 2), (29, 3), (30, 4), (31, 5), (32, 6), (33, 7), (34, 8), (7, 9), (8, 10), (9, 11)] [[], [0], [0, 1], [], [0, 1, 2, 3], [], [5], [5, 6], [5, 6, 7], [], [], [], [0, 1, 2, 3, 4, 9, 10, 11], [0, 1, 2, 3, 4, 9, 10, 11, 12], [0, 1, 2, 3, 4, 5, 6, 7, 8, 9, 10, 11, 12, 13]] (rel [is (.agg #[.int .u8 x.x0, .int .u8 x.x1, .int .u8 x.x2, .int .u8 x.x3, .int .u8 x.xh, .int .u8 x.y0, .int .u8 x.y1, .int .u8 x.y2, .int .u8 x.y3, .bool x.xo, .int .u8 x.ca, .int .u8 x.cb, .int .u8 x.v0, .int .u8 x.v1, .int .u8 x.v2, .int .u8 x.v3, .int .u8 x.v4]),
   ab fun v W => TyBlk 0 d v W,
   ab fun v W => TyBlk 0 b v W,
   is (.agg #[.int .u8 x.x0, .int .u8 x.x1, .int .u8 x.x2, .int .u8 x.x3, .int .u8 x.xh, .int .u8 x.y0, .int .u8 x.y1, .int .u8 x.y2, .int .u8 x.y3, .bool x.xo, .int .u8 x.ca, .int .u8 x.cb, .int .u8 x.v0, .int .u8 x.v1, .int .u8 x.v2, .int .u8 x.v3, .int .u8 x.v4]),
   is (.agg #[.int .i64 lo, .int .i64 hi]),
   is (.pointer (some ⟨(s1 2), 0, none⟩)),
   is (.int .u8 v0),
   is (.int .i64 v0),
   is (.int .i64 off),
   boxK (W1.heap.size) 24 7 9,
   boxK (W1.heap.size) 26 2 10,
   bx 11 #[.int .i64 0] 3,
   stoK (W1.heap.size) 24 (twoG 24 (b) (#[.int .i64 lo, .int .i64 hi])) 9,
   stoK (W1.heap.size) 26 (twoG 24 (b) (#[.int .i64 lo, .int .i64 hi])) 10]) (by kernel_rfl) (by kernel_rfl) (by kernel_rfl) (by kernel_rfl)
  ⟨is_kl, tyK_k rfl, tyK_k rfl, is_kl, is_kl, is_kl, is_kl, is_kl, is_kl, boxK_k rfl, boxK_k rfl, bxK_k rfl, stoK_k rfl (by simp), stoK_k rfl (by simp), trivial⟩
  ⟨fun f s W hT m p q r a => by have hW := LeK.below hT (Nat.le_refl _); exact OpDo.l (LeK.of_below twoG_b) (opl rfl rfl rfl (a.v 3 k1_3) (bwb br1_0 hW) Tryz.underlying72 rfl (by kernel_rfl) rfl),
  fun f s W hT m p q r a => by have hW := LeK.below hT (Nat.le_refl _); exact OpDo.l (LeK.of_below twoG_b) (opd (args := #[.agg #[.int .u8 x.x0, .int .u8 x.x1, .int .u8 x.x2, .int .u8 x.x3, .int .u8 x.xh, .int .u8 x.y0, .int .u8 x.y1, .int .u8 x.y2, .int .u8 x.y3, .bool x.xo, .int .u8 x.ca, .int .u8 x.cb, .int .u8 x.v0, .int .u8 x.v1, .int .u8 x.v2, .int .u8 x.v3, .int .u8 x.v4]]) rfl rfl (by simp [go_sem, a.e 26 (m 0 rfl)]) ((hbx ▸ sheet_b x gx W : Calls _ _ _ W (TyBlkP d W))) ((fun e W' h => by obtain ⟨v, e1, h1, h2⟩ := h; exact ⟨_, e1, h2, h1.low (Nat.zero_le _)⟩))),
  fun f s W hT m p q r a => by have hW := LeK.below hT (Nat.le_refl _); exact OpDo.l (LeK.of_below twoG_b) (by obtain ⟨g1', c4', g2', c5', g3', c6', d1, q7', q8', q9'⟩ := (m 1 rfl); exact opd (args := #[.agg #[.int .i64 d.tab, .slice (some ⟨g1', 0, none⟩) (d.panels.length) c4', .int .i64 d.height, .slice (some ⟨g2', 0, none⟩) (d.top.length) c5', .slice (some ⟨g3', 0, none⟩) (d.bottom.length) c6', .int .i64 d.slot, .bool d.isOpen]]) rfl rfl (by simp [go_sem, a.e 27 d1]) (twin_ty d W ⟨_, _, _, _, _, _, rfl, q7', q8', q9'⟩ hkd) ((fun e W' h => by obtain ⟨v, e1, h1, h2⟩ := h; rw [ht] at h1; exact ⟨_, e1, h2, h1⟩))),
  fun f s W hT m p q r a => by have hW := LeK.below hT (Nat.le_refl _); exact OpDo.l (LeK.of_below twoG_b) (opl rfl rfl rfl (a.v 3 k1_3) (bwb br1_0 hW) Tryz.underlying72 rfl (by kernel_rfl) rfl),
  fun f s W hT m p q r a => by have hW := LeK.below hT (Nat.le_refl _); exact OpDo.l (LeK.of_below twoG_b) (opd rfl rfl (by simp [go_sem, a.e 29 (m 3 rfl)]) (sheet_c x gx W) ((fun e W' h => by have h1 := h.1; rw [hcx] at h1; exact ⟨_, h1, h.2, rfl⟩))),
  fun f s W hT m p q r a => by have hW := LeK.below hT (Nat.le_refl _); exact OpDo.l (LeK.of_below twoG_b) (opv rfl rfl (by simp [go_sem, a.e 5 k1_5]) rfl),
  fun f s W hT m p q r a => by have hW := LeK.below hT (Nat.le_refl _); exact OpDo.l (LeK.of_below twoG_b) (opv rfl rfl (by simp [go_sem, a.e 31 (m 5 rfl), cb br1_2 hW 0]) rfl),
  fun f s W hT m p q r a => by have hW := LeK.below hT (Nat.le_refl _); exact OpDo.l (LeK.of_below twoG_b) (by have cv_ := IntWalk.i64_in v0 (by omega); exact opv rfl rfl (by simp [go_sem, a.e 32 (m 6 rfl), cv_]) rfl),
  fun f s W hT m p q r a => by have hW := LeK.below hT (Nat.le_refl _); exact OpDo.l (LeK.of_below twoG_b) (by have qu_ : (v0).tmod 6 = off := (Int.tmod_eq_emod_of_nonneg (by omega)).trans hof; have qw_ := IntWalk.i64_in (off) (by omega); exact opv rfl rfl (by simp [go_sem, a.e 33 (m 7 rfl), qu_, qw_]) rfl),
  fun f s W hT m p q r a => opK (cs := #[.int .i64 0, .slice none 0 0, .int .i64 0, .slice none 0 0, .slice none 0 0, .int .i64 0, .bool false]) twoG_b (hT.size) rfl rfl (by simp [go_sem]) rfl,
  fun f s W hT m p q r a => opK (cs := #[.int .i64 0, .int .i64 0]) twoG_b (hT.size) rfl rfl (by simp [go_sem]) rfl,
  fun f s W hT m p q r a => by have hW := LeK.below hT (Nat.le_refl _); exact OpDo.l (LeK.of_below twoG_b) (opb rfl rfl (by simp [go_sem])),
  fun f s W hT m p q r a => by obtain ⟨g10', c13', g11', c14', g12', c15', dv, q16', q17', q18'⟩ := (m 2 rfl); exact stoK_do (#[.int .i64 b.tab, .slice (some ⟨g10', 0, none⟩) (b.panels.length) c13', .int .i64 b.height, .slice (some ⟨g11', 0, none⟩) (b.top.length) c14', .slice (some ⟨g12', 0, none⟩) (b.bottom.length) c15', .int .i64 b.slot, .bool b.isOpen]) rfl rfl (by decide) (m 9 rfl) (a.v 7 (m 9 rfl).1) (a.v 28 dv) rfl rfl (by rfl) (by rfl) (show tyC (b) #[.int .i64 b.tab, .slice (some ⟨g10', 0, none⟩) (b.panels.length) c13', .int .i64 b.height, .slice (some ⟨g11', 0, none⟩) (b.top.length) c14', .slice (some ⟨g12', 0, none⟩) (b.bottom.length) c15', .int .i64 b.slot, .bool b.isOpen] W from ⟨g10', c13', g11', c14', g12', c15', rfl, q16', q17', q18'⟩) (twoG_s rfl),
  fun f s W hT m p q r a => by exact stoK_do (#[.int .i64 lo, .int .i64 hi]) rfl rfl (by decide) (m 10 rfl) (a.v 8 (m 10 rfl).1) (a.v 30 (m 4 rfl)) rfl rfl (by rfl) (by rfl) (show justC #[.int .i64 lo, .int .i64 hi] #[.int .i64 lo, .int .i64 hi] W from rfl) (twoG_s rfl), trivial⟩ ?_
 intro f2 s2 W2 hB2
 have hb2 := LeK.below hB2.le (Nat.le_refl _)
 have fB2 := bwt fB1 hb2
 have z2 : W1.heap.size ≤ W2.heap.size := hb2.size
 have b2_0 := bwb br1_0 hb2
 have b2_1 := bwb br1_1 hb2
 have b2_2 := bwb br1_2 hb2
 obtain ⟨r2_9, lb2_9, -⟩ := hB2.is 9
 obtain ⟨-, cs2_9, bs2_9, hG2_9⟩ := hB2.is 12
 have hY2 : TyBlk 0 (b) (.agg cs2_9) W2 := hG2_9
 obtain ⟨g19', c22', g20', c23', g21', c24', eY2, q25', q26', q27'⟩ := hY2
 obtain rfl := Value.agg.inj eY2
 have lr2_9 : W1.heap.size ≤ s2 9 ∧ s2 9 < W2.heap.size := ⟨lb2_9, ltb bs2_9⟩
 obtain ⟨r2_10, lb2_10, -⟩ := hB2.is 10
 obtain ⟨-, cs2_10, bs2_10, hG2_10⟩ := hB2.is 13
 obtain rfl : cs2_10 = #[.int .i64 lo, .int .i64 hi] := hG2_10
 have lr2_10 : W1.heap.size ≤ s2 10 ∧ s2 10 < W2.heap.size := ⟨lb2_10, ltb bs2_10⟩
 have nk2_9_10 : s2 9 ≠ s2 10 := fun e => by rw [e] at bs2_9; exact absurd (bs2_9.symm.trans bs2_10) (by simp)
 obtain ⟨r2_11, br2_11⟩ := hB2.is 11
 have lr2_11 : W1.heap.size ≤ s2 11 ∧ s2 11 < W2.heap.size := ⟨hB2.from' 11 (by decide), ltb br2_11⟩
 have nk2_9_11 : s2 9 ≠ s2 11 := fun e => by rw [e] at bs2_9; exact absurd (bs2_9.symm.trans br2_11) (by simp)
 have nk2_10_11 : s2 10 ≠ s2 11 := fun e => by rw [e] at bs2_10; exact absurd (bs2_10.symm.trans br2_11) (by simp)
 generalize hg2 : ov [(26, 0), (27, 1), (28, 2), (29, 3), (30, 4), (31, 5), (32, 6), (33, 7), (34, 8), (7, 9), (8, 10), (9, 11)] f2 g1 = g2
 have k2_3 := kt hg2 3 k1_3
 have k2_7 := kt hg2 7 r2_9
 have k2_8 := kt hg2 8 r2_10
 have k2_34 := kt hg2 34 (hB2.is 8)
 have k2_9 := kt hg2 9 r2_11
 obtain ⟨W3, hW3⟩ : ∃ W', W' = W2.setRow (s2 11) #[.int .i64 off] := ⟨_, rfl⟩
 refine tsk (o := _) rfl ⟨rfl, rfl⟩ (run_seg hW3 (fr_ev k2_9) (fr_ev k2_34) br2_11 rfl rfl rfl rfl) ?_
 obtain ⟨fB3, nb3, ot3, z3⟩ := sgf hW3 fB2 br2_11 (by omega)
 clear hW3
 have b3_0 := ot3 _ _ nea b2_0
 have b3_1 := ot3 _ _ nea b2_1
 have b3_2 := ot3 _ _ nea b2_2
 have b3_3 := ot3 _ _ nea bs2_9
 have b3_4 := ot3 _ _ nea bs2_10
 have q28' := q25'.other ot3 (own_ne1 q25' (by first | omega | simp) br2_11) z3
 have q29' := q26'.other ot3 (own_ne1 q26' (by first | omega | simp) br2_11) z3
 have q30' := q27'.other ot3 (own_ne1 q27' (by first | omega | simp) br2_11) z3
 refine wpe ?_
 refine hK2 _ _ ?_
 refine wp_seq_k fun K3 hK3 => ?_
 as_aux_lemma =>
 refine ry 5 [(35, 0), (36, 1), (37, 2), (38, 3), (10, 4)] [[], [], [], [0, 1, 2], [], [0, 1, 2, 3, 4]] (rel [is (.agg #[.int .u8 x.x0, .int .u8 x.x1, .int .u8 x.x2, .int .u8 x.x3, .int .u8 x.xh, .int .u8 x.y0, .int .u8 x.y1, .int .u8 x.y2, .int .u8 x.y3, .bool x.xo, .int .u8 x.ca, .int .u8 x.cb, .int .u8 x.v0, .int .u8 x.v1, .int .u8 x.v2, .int .u8 x.v3, .int .u8 x.v4]), is (.agg #[.int .i64 b.tab, .slice (some ⟨g19', 0, none⟩) (b.panels.length) c22', .int .i64 b.height, .slice (some ⟨g20', 0, none⟩) (b.top.length) c23', .slice (some ⟨g21', 0, none⟩) (b.bottom.length) c24', .int .i64 b.slot, .bool b.isOpen]), is (.agg #[.int .i64 lo, .int .i64 hi]), is (.agg #[.int .i64 vi.length.1, .int .i64 vi.length.2, .int .i64 vi.width.1, .int .i64 vi.width.2, .int .i64 vi.height.1, .int .i64 vi.height.2, .int .i64 vi.outer.1, .int .i64 vi.outer.2, .int .i64 vi.inner.1, .int .i64 vi.inner.2, .bool vi.isOpen]), bx 4 #[.int .i64 0, .int .i64 0, .int .i64 0, .int .i64 0, .int .i64 0, .int .i64 0, .int .i64 0, .int .i64 0, .int .i64 0, .int .i64 0, .bool false] 43])
  ⟨fun f s W hW m p q r a => opl rfl rfl rfl (a.v 3 k2_3) (bwb b3_0 hW) Tryz.underlying72 rfl (by kernel_rfl) rfl,
  fun f s W hW m p q r a => opl rfl rfl rfl (a.v 7 k2_7) (bwb b3_3 hW) Tryz.underlying24 rfl (by kernel_rfl) rfl,
  fun f s W hW m p q r a => opv rfl rfl (by simp [go_sem, a.e 8 k2_8, cb b3_4 hW 0, cb b3_4 hW 1]) rfl,
  fun f s W hW m p q r a => opd (args := #[.agg #[.int .u8 x.x0, .int .u8 x.x1, .int .u8 x.x2, .int .u8 x.x3, .int .u8 x.xh, .int .u8 x.y0, .int .u8 x.y1, .int .u8 x.y2, .int .u8 x.y3, .bool x.xo, .int .u8 x.ca, .int .u8 x.cb, .int .u8 x.v0, .int .u8 x.v1, .int .u8 x.v2, .int .u8 x.v3, .int .u8 x.v4], .agg #[.int .i64 b.tab, .slice (some ⟨g19', 0, none⟩) (b.panels.length) c22', .int .i64 b.height, .slice (some ⟨g20', 0, none⟩) (b.top.length) c23', .slice (some ⟨g21', 0, none⟩) (b.bottom.length) c24', .int .i64 b.slot, .bool b.isOpen], .agg #[.int .i64 lo, .int .i64 hi]]) rfl rfl (by simp [go_sem, a.e 35 (m 0 rfl), a.e 36 (m 1 rfl), a.e 37 (m 2 rfl)]) (wished_blk x gx _ _ _ _ _ _ b lo hi W ((q28'.below hW)).ii ((q29'.below hW)).ii ((q30'.below hW)).ii hck (by omega) (by omega)) ((fun e W' h => by have h1 := h.1; rw [hto, hv] at h1; exact ⟨_, h1, h.2, rfl⟩)),
  fun f s W hW m p q r a => opb rfl rfl (by simp [go_sem]), trivial⟩ ?_
 intro f4 s4 W4 hB4 g4 hg4 z4
 have fB4 := hB4.f fB3
 have b4_0 := hB4.b b3_0
 have b4_1 := hB4.b b3_1
 have b4_2 := hB4.b b3_2
 have b4_3 := hB4.b b3_3
 have b4_4 := hB4.b b3_4
 have b4_5 := hB4.b nb3
 have q31' := (q28'.below hB4.below)
 have q32' := (q29'.below hB4.below)
 have q33' := (q30'.below hB4.below)
 obtain ⟨r4_4, br4_4⟩ := hB4.is 4
 have lr4_4 := hB4.lr 4 br4_4
 have k4_7 := kt hg4 7 k2_7
 have k4_38 := kt hg4 38 (hB4.is 3)
 have k4_10 := kt hg4 10 r4_4
 obtain ⟨W5, hW5⟩ : ∃ W', W' = W4.setRow (s4 4) #[.int .i64 vi.length.1, .int .i64 vi.length.2, .int .i64 vi.width.1, .int .i64 vi.width.2, .int .i64 vi.height.1, .int .i64 vi.height.2, .int .i64 vi.outer.1, .int .i64 vi.outer.2, .int .i64 vi.inner.1, .int .i64 vi.inner.2, .bool vi.isOpen] := ⟨_, rfl⟩
 refine tsk (o := _) rfl ⟨rfl, rfl⟩ (run_seg hW5 (fr_ev k4_10) (fr_ev k4_38) br4_4 rfl rfl rfl rfl) ?_
 obtain ⟨fB5, nb5, ot5, z5⟩ := sgf hW5 fB4 br4_4 (by omega)
 clear hW5
 have b5_0 := ot5 _ _ nea b4_0
 have b5_1 := ot5 _ _ nea b4_1
 have b5_2 := ot5 _ _ nea b4_2
 have b5_3 := ot5 _ _ nea b4_3
 have b5_4 := ot5 _ _ nea b4_4
 have b5_5 := ot5 _ _ nea b4_5
 have q34' := q31'.other ot5 (own_ne q31' br4_4) z5
 have q35' := q32'.other ot5 (own_ne q32' br4_4) z5
 have q36' := q33'.other ot5 (own_ne q33' br4_4) z5
 refine wpe ?_
 refine hK3 _ _ ?_
 have fA6 : Below W5.heap.size W5 W5 := Below.refl _ _
 refine wp_seq_k fun K4 hK4 => ?_
 as_aux_lemma =>
 refine rz 3 [(39, 0), (40, 1), (11, 2)] [[], [0], [], [0, 1, 2]] (rel [is (.agg #[.int .i64 b.tab, .slice (some ⟨g19', 0, none⟩) (b.panels.length) c22', .int .i64 b.height, .slice (some ⟨g20', 0, none⟩) (b.top.length) c23', .slice (some ⟨g21', 0, none⟩) (b.bottom.length) c24', .int .i64 b.slot, .bool b.isOpen]), fun v s W => OwBlk (s 1) (⟨30, [p0, p1, p2, p3], hh, [t0, t1], [u0, u1], 9, b.isOpen⟩) v W, bx 2 #[.int .i64 0, .slice none 0 0, .int .i64 0, .slice none 0 0, .slice none 0 0, .int .i64 0, .bool false] 24])
  ⟨is_k, ⟨fun v k W W' hb h => h.below hb, fun v s s' W e h => by have h' : OwBlk (s 1) (⟨30, [p0, p1, p2, p3], hh, [t0, t1], [u0, u1], 9, b.isOpen⟩) v W := h; show OwBlk (s' 1) (⟨30, [p0, p1, p2, p3], hh, [t0, t1], [u0, u1], 9, b.isOpen⟩) v W; rw [← e 1 (by simp)]; exact h'⟩, bx_k, trivial⟩
  ⟨fun f s W hW m p q r a => by have aW := bwt fA6 hW; exact opl rfl rfl rfl (a.v 7 k4_7) (bwb b5_3 aW) Tryz.underlying24 rfl (by kernel_rfl) rfl,
  fun f s W hW m p q r a => by have aW := bwt fA6 hW; exact opd (args := #[.agg #[.int .i64 b.tab, .slice (some ⟨g19', 0, none⟩) (b.panels.length) c22', .int .i64 b.height, .slice (some ⟨g20', 0, none⟩) (b.top.length) c23', .slice (some ⟨g21', 0, none⟩) (b.bottom.length) c24', .int .i64 b.slot, .bool b.isOpen]]) rfl rfl (by simp [go_sem, a.e 39 (m 0 rfl)]) (own_lit hbl _ _ _ _ _ _ W ((q34'.below aW)).ii ((q35'.below aW)).ii ((q36'.below aW)).ii) (fun e W' h => by obtain ⟨v, e1, h1, h2⟩ := h; exact ⟨v, e1, h2, (show OwBlk (upd s 1 W.heap.size 1) (⟨30, [p0, p1, p2, p3], hh, [t0, t1], [u0, u1], 9, b.isOpen⟩) v W' from by rw [upd_at]; exact h1)⟩),
  fun f s W hW m p q r a => opb rfl rfl (by simp [go_sem]), trivial⟩ ?_
 intro f7 s7 W7 hB7 g7 hg7 z7
 have fB7 := hB7.f fB5
 have fA7 := hB7.f fA6
 obtain ⟨g37', c40', g38', c41', g39', c42', r7_1, q43', q44', q45', q46', q47', q48'⟩ := hB7.is 1
 have la7_1 := hB7.from' 1 (by decide)
 have lo7_1_o0 := q43'.lim
 have q49' := q43'.low (B' := w.heap.size) (Nat.le_trans fB5.size (la7_1))
 have lo7_1_o1 := q44'.lim
 have q50' := q44'.low (B' := w.heap.size) (Nat.le_trans fB5.size (la7_1))
 have lo7_1_o2 := q45'.lim
 have q51' := q45'.low (B' := w.heap.size) (Nat.le_trans fB5.size (la7_1))
 obtain ⟨r7_2, br7_2⟩ := hB7.is 2
 have lr7_2 := hB7.lr 2 br7_2
 have oo7_1_o0_2 := hB7.off 1 2 (by decide) (by decide) (by decide) lo7_1_o0.1 (fun W h => (OwBlk.lt h r7_1).1) (fun _ _ _ h => ltb h.2)
 have oo7_1_o1_2 := hB7.off 1 2 (by decide) (by decide) (by decide) lo7_1_o1.1 (fun W h => (OwBlk.lt h r7_1).2.1) (fun _ _ _ h => ltb h.2)
 have oo7_1_o2_2 := hB7.off 1 2 (by decide) (by decide) (by decide) lo7_1_o2.1 (fun W h => (OwBlk.lt h r7_1).2.2) (fun _ _ _ h => ltb h.2)
 have k7_4 := kt hg7 4 (kt hg4 4 (kt hg2 4 (kt hg1 4 r1_1)))
 have k7_9 := kt hg7 9 (kt hg4 9 k2_9)
 have k7_40 := kt hg7 40 r7_1
 have k7_11 := kt hg7 11 r7_2
 obtain ⟨W8, hW8⟩ : ∃ W', W' = W7.setRow (s7 2) #[.int .i64 30, .slice (some ⟨g37', 0, none⟩) 4 c40', .int .i64 hh, .slice (some ⟨g38', 0, none⟩) 2 c41', .slice (some ⟨g39', 0, none⟩) 2 c42', .int .i64 9, .bool b.isOpen] := ⟨_, rfl⟩
 refine tsk (o := _) rfl ⟨rfl, rfl⟩ (run_seg hW8 (fr_ev k7_11) (fr_ev k7_40) br7_2 rfl rfl rfl rfl) ?_
 obtain ⟨fB8, nb8, ot8, z8⟩ := sgf hW8 fB7 br7_2 (by omega)
 have fA8 := (sgf hW8 fA7 br7_2 (by omega)).1
 clear hW8
 have q52' := q49'.other ot8 nea z8
 have q53' := q50'.other ot8 nea z8
 have q54' := q51'.other ot8 nea z8
 refine wpe ?_
 refine hK4 _ _ ?_
 refine wp_seq_k fun K5 hK5 => ?_
 as_aux_lemma =>
 refine ry 2 [(41, 0), (12, 1)] [[], [0]] (rel [is (.func (.func 40) #[] #[.pointer (some ⟨(s1 1), 0, none⟩), .pointer (some ⟨(s2 11), 0, none⟩)]), is (.func (.func 40) #[] #[.pointer (some ⟨(s1 1), 0, none⟩), .pointer (some ⟨(s2 11), 0, none⟩)])])
  ⟨fun f s W hW m p q r a => opv rfl rfl (by simp [go_sem, a.e 4 k7_4, a.e 9 k7_9]) rfl,
  fun f s W hW m p q r a => opm (a.v 41 (m 0 rfl)), trivial⟩ ?_
 intro f9 s9 W9 hB9 g9 hg9 z9
 have fA9 := hB9.f fA8
 have q55' := (q52'.below hB9.below)
 have q56' := (q53'.below hB9.below)
 have q57' := (q54'.below hB9.below)
 refine hK5 _ _ ?_
 refine wp_seq_k fun K6 hK6 => ?_
 refine wp_seq_k fun K7 hK7 => ?_
 as_aux_lemma =>
 refine ry 1 [(13, 0)] [[]] (rel [iI 0])
  ⟨fun f s W hW m p q r a => opz, trivial⟩ ?_
 intro f10 s10 W10 hB10 g10 hg10 z10
 have fA10 := hB10.f fA9
 have q58' := (q55'.below hB10.below)
 have q59' := (q56'.below hB10.below)
 have q60' := (q57'.below hB10.below)
 refine hK7 _ _ ?_
 have k10_13 := kt hg10 13 (hB10.is 0)
 refine wp_block ?_
 refine wp_loop_rounds 5 ?_
 rw [rounds_succ]
 refine wp_seq_k fun K8 hK8 => ?_
 refine wp_seq_k fun K9 hK9 => ?_
 as_aux_lemma =>
 refine ry 2 [(42, 0), (43, 1)] [[], [0]] (rel [iI 0, iB true])
  ⟨fun f s W hW m p q r a => opm (a.v 13 k10_13),
  fun f s W hW m p q r a => opv rfl rfl (by simp [go_sem, a.e 42 (m 0 rfl)]) rfl, trivial⟩ ?_
 intro f11 s11 W11 hB11 g11 hg11 z11
 have fA11 := hB11.f fA10
 have b11_7 := hB11.b (hB10.b (hB9.b nb8))
 have q61' := (q58'.below hB11.below)
 have q62' := (q59'.below hB11.below)
 have q63' := (q60'.below hB11.below)
 refine hK9 _ _ ?_
 have k11_11 := kt hg11 11 (kt hg10 11 (kt hg9 11 k7_11))
 have k11_12 := kt hg11 12 (kt hg10 12 (kt hg9 12 (hB9.is 1)))
 have k11_13 := kt hg11 13 k10_13
 have k11_43 := kt hg11 43 (hB11.is 1)
 refine wp_cond_true ((fr_eval rfl).trans k11_43) ?_
 refine wp_skip ?_
 refine hK8 _ _ ?_
 refine wp_seq_k fun K11 hK11 => ?_
 refine wp_block ?_
 as_aux_lemma =>
 refine ry 10 [(46, 0), (47, 1), (48, 2), (49, 3), (50, 4), (51, 5), (52, 6), (53, 7), (54, 8), (55, 9)] [[], [0], [], [1, 2], [3], [], [], [5, 6], [4, 7], [1, 2], [0, 1, 2, 3, 4, 5, 6, 7, 8, 9]] (rel [is (.pointer (some ⟨(s7 2), 1, none⟩)), is (.slice (some ⟨g37', 0, none⟩) 4 c40'), iI 0, is (.pointer (some ⟨g37', 0, none⟩)), iI p0, is (.func (.func 40) #[] #[.pointer (some ⟨(s1 1), 0, none⟩), .pointer (some ⟨(s2 11), 0, none⟩)]), iI 0, iI (dd 0), iI (p0 + (dd 0)), is (.pointer (some ⟨g37', 0, none⟩))])
  ⟨fun f s W hW m p q r a => opv rfl rfl (by simp [go_sem, a.e 11 k11_11]) rfl,
  fun f s W hW m p q r a => opv rfl rfl (by simp [go_sem, a.e 46 (m 0 rfl), cb b11_7 hW 1]) rfl,
  fun f s W hW m p q r a => opm (a.v 13 k11_13),
  fun f s W hW m p q r a => opv rfl rfl (by simp [go_sem, a.e 47 (m 1 rfl), a.e 48 (m 2 rfl)]) rfl,
  fun f s W hW m p q r a => by have u4_ : W.cell? ⟨g37', 0, none⟩ = some (.int .i64 (p0)) := (OwnI.cell ((q61'.below hW)) (i := 0) (by simp)); exact opv rfl rfl (by simp [go_sem, a.e 49 (m 3 rfl), u4_]) rfl,
  fun f s W hW m p q r a => opm (a.v 12 k11_12),
  fun f s W hW m p q r a => opm (a.v 13 k11_13),
  fun f s W hW m p q r a => by have aW := bwt fA11 hW; exact opd (args := #[.int .i64 0, .pointer (some ⟨(s1 1), 0, none⟩), .pointer (some ⟨(s2 11), 0, none⟩)]) rfl rfl (by simp [go_sem, a.e 52 (m 6 rfl), a.e 51 (m 5 rfl)]) ((by_any ws off 0 (s1 1) (s2 11) W (bwb b5_1 aW) (bwb b5_5 aW) (by decide) (gws 0 (by decide)) gof : Calls _ _ #[.int .i64 0, _, _] W _)) ((fun e W' h => by have h1 := h.1; rw [hdd 0 (by decide)] at h1; exact ⟨_, h1, h.2, rfl⟩)),
  fun f s W hW m p q r a => opv rfl rfl (by simp [go_sem, a.e 50 (m 4 rfl), a.e 53 (m 7 rfl), IntWalk.i64_in (p0 + (dd 0)) (by omega)]) rfl,
  fun f s W hW m p q r a => opv rfl rfl (by simp [go_sem, a.e 47 (m 1 rfl), a.e 48 (m 2 rfl)]) rfl, trivial⟩ ?_
 intro f12 s12 W12 hB12 g12 hg12 z12
 have fB12 := hB12.f (hB11.f (hB10.f (hB9.f fB8)))
 have fA12 := hB12.f fA11
 have b12_7 := hB12.b b11_7
 have q64' := (q61'.below hB12.below)
 have q65' := (q62'.below hB12.below)
 have q66' := (q63'.below hB12.below)
 have k12_13 := kt hg12 13 k11_13
 have k12_54 := kt hg12 54 (hB12.is 8)
 have k12_55 := kt hg12 55 (hB12.is 9)
 obtain ⟨W13, st13, ow13, ot13, z13, fB13, ax13⟩ := storeIA_tail (c := c40') (i := 0) (x := p0 + (dd 0)) ([p0 + (dd 0), p1, p2, p3]) (by simp) rfl fB12 q64'
 refine tsk (o := _) rfl ⟨rfl, rfl⟩ (st13 (fr_ev k12_55) (fr_ev k12_54)) ?_
 have fA13 := ax13 _ fA12 (by omega)
 have b13_7 := ot13 _ _ nea b12_7
 have q67' := q65'.other ot13 nea z13
 have q68' := q66'.other ot13 nea z13
 refine wpe ?_
 refine ibn ?_
 refine hK11 _ _ ?_
 as_aux_lemma =>
 refine ry 3 [(44, 0), (45, 1), (13, 2)] [[], [0], [0, 1]] (rel [iI 0, iI 1, iI 1])
  ⟨fun f s W hW m p q r a => opm (a.v 13 ((q 2 13 rfl rfl).trans k12_13)),
  fun f s W hW m p q r a => opv rfl rfl (by simp [go_sem, a.e 44 (m 0 rfl), IntWalk.i64_in (1) (by omega)]) rfl,
  fun f s W hW m p q r a => opm (a.v 45 (m 1 rfl)), trivial⟩ ?_
 intro f14 s14 W14 hB14 g14 hg14 z14
 have fA14 := hB14.f fA13
 have q69' := (q67'.below hB14.below)
 have q70' := (q68'.below hB14.below)
 have q71' := (ow13.below hB14.below)
 refine wpe ?_
 have k14_13 := kt hg14 13 (hB14.is 2)
 refine then_normal ?_
 rw [rounds_succ]
 refine wp_seq_k fun K12 hK12 => ?_
 refine wp_seq_k fun K13 hK13 => ?_
 as_aux_lemma =>
 refine ry 2 [(42, 0), (43, 1)] [[], [0]] (rel [iI 1, iB true])
  ⟨fun f s W hW m p q r a => opm (a.v 13 k14_13),
  fun f s W hW m p q r a => opv rfl rfl (by simp [go_sem, a.e 42 (m 0 rfl)]) rfl, trivial⟩ ?_
 intro f15 s15 W15 hB15 g15 hg15 z15
 have fA15 := hB15.f fA14
 have b15_7 := hB15.b (hB14.b b13_7)
 have q72' := (q69'.below hB15.below)
 have q73' := (q70'.below hB15.below)
 have q74' := (q71'.below hB15.below)
 refine hK13 _ _ ?_
 have k15_11 := kt hg15 11 (kt hg14 11 (kt hg12 11 k11_11))
 have k15_12 := kt hg15 12 (kt hg14 12 (kt hg12 12 k11_12))
 have k15_13 := kt hg15 13 k14_13
 have k15_43 := kt hg15 43 (hB15.is 1)
 refine wp_cond_true ((fr_eval rfl).trans k15_43) ?_
 refine wp_skip ?_
 refine hK12 _ _ ?_
 refine wp_seq_k fun K15 hK15 => ?_
 refine wp_block ?_
 as_aux_lemma =>
 refine ry 10 [(46, 0), (47, 1), (48, 2), (49, 3), (50, 4), (51, 5), (52, 6), (53, 7), (54, 8), (55, 9)] [[], [0], [], [1, 2], [3], [], [], [5, 6], [4, 7], [1, 2], [0, 1, 2, 3, 4, 5, 6, 7, 8, 9]] (rel [is (.pointer (some ⟨(s7 2), 1, none⟩)), is (.slice (some ⟨g37', 0, none⟩) 4 c40'), iI 1, is (.pointer (some ⟨g37', 1, none⟩)), iI p1, is (.func (.func 40) #[] #[.pointer (some ⟨(s1 1), 0, none⟩), .pointer (some ⟨(s2 11), 0, none⟩)]), iI 1, iI (dd 1), iI (p1 + (dd 1)), is (.pointer (some ⟨g37', 1, none⟩))])
  ⟨fun f s W hW m p q r a => opv rfl rfl (by simp [go_sem, a.e 11 k15_11]) rfl,
  fun f s W hW m p q r a => opv rfl rfl (by simp [go_sem, a.e 46 (m 0 rfl), cb b15_7 hW 1]) rfl,
  fun f s W hW m p q r a => opm (a.v 13 k15_13),
  fun f s W hW m p q r a => opv rfl rfl (by simp [go_sem, a.e 47 (m 1 rfl), a.e 48 (m 2 rfl)]) rfl,
  fun f s W hW m p q r a => by have u4_ : W.cell? ⟨g37', 1, none⟩ = some (.int .i64 (p1)) := (OwnI.cell ((q74'.below hW)) (i := 1) (by simp)); exact opv rfl rfl (by simp [go_sem, a.e 49 (m 3 rfl), u4_]) rfl,
  fun f s W hW m p q r a => opm (a.v 12 k15_12),
  fun f s W hW m p q r a => opm (a.v 13 k15_13),
  fun f s W hW m p q r a => by have aW := bwt fA15 hW; exact opd (args := #[.int .i64 1, .pointer (some ⟨(s1 1), 0, none⟩), .pointer (some ⟨(s2 11), 0, none⟩)]) rfl rfl (by simp [go_sem, a.e 52 (m 6 rfl), a.e 51 (m 5 rfl)]) ((by_any ws off 1 (s1 1) (s2 11) W (bwb b5_1 aW) (bwb b5_5 aW) (by decide) (gws 1 (by decide)) gof : Calls _ _ #[.int .i64 1, _, _] W _)) ((fun e W' h => by have h1 := h.1; rw [hdd 1 (by decide)] at h1; exact ⟨_, h1, h.2, rfl⟩)),
  fun f s W hW m p q r a => opv rfl rfl (by simp [go_sem, a.e 50 (m 4 rfl), a.e 53 (m 7 rfl), IntWalk.i64_in (p1 + (dd 1)) (by omega)]) rfl,
  fun f s W hW m p q r a => opv rfl rfl (by simp [go_sem, a.e 47 (m 1 rfl), a.e 48 (m 2 rfl)]) rfl, trivial⟩ ?_
 intro f16 s16 W16 hB16 g16 hg16 z16
 have fB16 := hB16.f (hB15.f (hB14.f fB13))
 have fA16 := hB16.f fA15
 have b16_7 := hB16.b b15_7
 have q75' := (q72'.below hB16.below)
 have q76' := (q73'.below hB16.below)
 have q77' := (q74'.below hB16.below)
 have k16_13 := kt hg16 13 k15_13
 have k16_54 := kt hg16 54 (hB16.is 8)
 have k16_55 := kt hg16 55 (hB16.is 9)
 obtain ⟨W17, st17, ow17, ot17, z17, fB17, ax17⟩ := storeIA_tail (c := c40') (i := 1) (x := p1 + (dd 1)) ([p0 + (dd 0), p1 + (dd 1), p2, p3]) (by simp) rfl fB16 q77'
 refine tsk (o := _) rfl ⟨rfl, rfl⟩ (st17 (fr_ev k16_55) (fr_ev k16_54)) ?_
 have fA17 := ax17 _ fA16 (by omega)
 have b17_7 := ot17 _ _ nea b16_7
 have q78' := q75'.other ot17 nea z17
 have q79' := q76'.other ot17 nea z17
 refine wpe ?_
 refine ibn ?_
 refine hK15 _ _ ?_
 as_aux_lemma =>
 refine ry 3 [(44, 0), (45, 1), (13, 2)] [[], [0], [0, 1]] (rel [iI 1, iI 2, iI 2])
  ⟨fun f s W hW m p q r a => opm (a.v 13 ((q 2 13 rfl rfl).trans k16_13)),
  fun f s W hW m p q r a => opv rfl rfl (by simp [go_sem, a.e 44 (m 0 rfl), IntWalk.i64_in (2) (by omega)]) rfl,
  fun f s W hW m p q r a => opm (a.v 45 (m 1 rfl)), trivial⟩ ?_
 intro f18 s18 W18 hB18 g18 hg18 z18
 have fA18 := hB18.f fA17
 have q80' := (q78'.below hB18.below)
 have q81' := (q79'.below hB18.below)
 have q82' := (ow17.below hB18.below)
 refine wpe ?_
 have k18_13 := kt hg18 13 (hB18.is 2)
 refine then_normal ?_
 rw [rounds_succ]
 refine wp_seq_k fun K16 hK16 => ?_
 refine wp_seq_k fun K17 hK17 => ?_
 as_aux_lemma =>
 refine ry 2 [(42, 0), (43, 1)] [[], [0]] (rel [iI 2, iB true])
  ⟨fun f s W hW m p q r a => opm (a.v 13 k18_13),
  fun f s W hW m p q r a => opv rfl rfl (by simp [go_sem, a.e 42 (m 0 rfl)]) rfl, trivial⟩ ?_
 intro f19 s19 W19 hB19 g19 hg19 z19
 have fA19 := hB19.f fA18
 have b19_7 := hB19.b (hB18.b b17_7)
 have q83' := (q80'.below hB19.below)
 have q84' := (q81'.below hB19.below)
 have q85' := (q82'.below hB19.below)
 refine hK17 _ _ ?_
 have k19_11 := kt hg19 11 (kt hg18 11 (kt hg16 11 k15_11))
 have k19_12 := kt hg19 12 (kt hg18 12 (kt hg16 12 k15_12))
 have k19_13 := kt hg19 13 k18_13
 have k19_43 := kt hg19 43 (hB19.is 1)
 refine wp_cond_true ((fr_eval rfl).trans k19_43) ?_
 refine wp_skip ?_
 refine hK16 _ _ ?_
 refine wp_seq_k fun K19 hK19 => ?_
 refine wp_block ?_
 as_aux_lemma =>
 refine ry 10 [(46, 0), (47, 1), (48, 2), (49, 3), (50, 4), (51, 5), (52, 6), (53, 7), (54, 8), (55, 9)] [[], [0], [], [1, 2], [3], [], [], [5, 6], [4, 7], [1, 2], [0, 1, 2, 3, 4, 5, 6, 7, 8, 9]] (rel [is (.pointer (some ⟨(s7 2), 1, none⟩)), is (.slice (some ⟨g37', 0, none⟩) 4 c40'), iI 2, is (.pointer (some ⟨g37', 2, none⟩)), iI p2, is (.func (.func 40) #[] #[.pointer (some ⟨(s1 1), 0, none⟩), .pointer (some ⟨(s2 11), 0, none⟩)]), iI 2, iI (dd 2), iI (p2 + (dd 2)), is (.pointer (some ⟨g37', 2, none⟩))])
  ⟨fun f s W hW m p q r a => opv rfl rfl (by simp [go_sem, a.e 11 k19_11]) rfl,
  fun f s W hW m p q r a => opv rfl rfl (by simp [go_sem, a.e 46 (m 0 rfl), cb b19_7 hW 1]) rfl,
  fun f s W hW m p q r a => opm (a.v 13 k19_13),
  fun f s W hW m p q r a => opv rfl rfl (by simp [go_sem, a.e 47 (m 1 rfl), a.e 48 (m 2 rfl)]) rfl,
  fun f s W hW m p q r a => by have u4_ : W.cell? ⟨g37', 2, none⟩ = some (.int .i64 (p2)) := (OwnI.cell ((q85'.below hW)) (i := 2) (by simp)); exact opv rfl rfl (by simp [go_sem, a.e 49 (m 3 rfl), u4_]) rfl,
  fun f s W hW m p q r a => opm (a.v 12 k19_12),
  fun f s W hW m p q r a => opm (a.v 13 k19_13),
  fun f s W hW m p q r a => by have aW := bwt fA19 hW; exact opd (args := #[.int .i64 2, .pointer (some ⟨(s1 1), 0, none⟩), .pointer (some ⟨(s2 11), 0, none⟩)]) rfl rfl (by simp [go_sem, a.e 52 (m 6 rfl), a.e 51 (m 5 rfl)]) ((by_any ws off 2 (s1 1) (s2 11) W (bwb b5_1 aW) (bwb b5_5 aW) (by decide) (gws 2 (by decide)) gof : Calls _ _ #[.int .i64 2, _, _] W _)) ((fun e W' h => by have h1 := h.1; rw [hdd 2 (by decide)] at h1; exact ⟨_, h1, h.2, rfl⟩)),
  fun f s W hW m p q r a => opv rfl rfl (by simp [go_sem, a.e 50 (m 4 rfl), a.e 53 (m 7 rfl), IntWalk.i64_in (p2 + (dd 2)) (by omega)]) rfl,
  fun f s W hW m p q r a => opv rfl rfl (by simp [go_sem, a.e 47 (m 1 rfl), a.e 48 (m 2 rfl)]) rfl, trivial⟩ ?_
 intro f20 s20 W20 hB20 g20 hg20 z20
 have fB20 := hB20.f (hB19.f (hB18.f fB17))
 have fA20 := hB20.f fA19
 have b20_7 := hB20.b b19_7
 have q86' := (q83'.below hB20.below)
 have q87' := (q84'.below hB20.below)
 have q88' := (q85'.below hB20.below)
 have k20_13 := kt hg20 13 k19_13
 have k20_54 := kt hg20 54 (hB20.is 8)
 have k20_55 := kt hg20 55 (hB20.is 9)
 obtain ⟨W21, st21, ow21, ot21, z21, fB21, ax21⟩ := storeIA_tail (c := c40') (i := 2) (x := p2 + (dd 2)) ([p0 + (dd 0), p1 + (dd 1), p2 + (dd 2), p3]) (by simp) rfl fB20 q88'
 refine tsk (o := _) rfl ⟨rfl, rfl⟩ (st21 (fr_ev k20_55) (fr_ev k20_54)) ?_
 have fA21 := ax21 _ fA20 (by omega)
 have b21_7 := ot21 _ _ nea b20_7
 have q89' := q86'.other ot21 nea z21
 have q90' := q87'.other ot21 nea z21
 refine wpe ?_
 refine ibn ?_
 refine hK19 _ _ ?_
 as_aux_lemma =>
 refine ry 3 [(44, 0), (45, 1), (13, 2)] [[], [0], [0, 1]] (rel [iI 2, iI 3, iI 3])
  ⟨fun f s W hW m p q r a => opm (a.v 13 ((q 2 13 rfl rfl).trans k20_13)),
  fun f s W hW m p q r a => opv rfl rfl (by simp [go_sem, a.e 44 (m 0 rfl), IntWalk.i64_in (3) (by omega)]) rfl,
  fun f s W hW m p q r a => opm (a.v 45 (m 1 rfl)), trivial⟩ ?_
 intro f22 s22 W22 hB22 g22 hg22 z22
 have fA22 := hB22.f fA21
 have q91' := (q89'.below hB22.below)
 have q92' := (q90'.below hB22.below)
 have q93' := (ow21.below hB22.below)
 refine wpe ?_
 have k22_13 := kt hg22 13 (hB22.is 2)
 refine then_normal ?_
 rw [rounds_succ]
 refine wp_seq_k fun K20 hK20 => ?_
 refine wp_seq_k fun K21 hK21 => ?_
 as_aux_lemma =>
 refine ry 2 [(42, 0), (43, 1)] [[], [0]] (rel [iI 3, iB true])
  ⟨fun f s W hW m p q r a => opm (a.v 13 k22_13),
  fun f s W hW m p q r a => opv rfl rfl (by simp [go_sem, a.e 42 (m 0 rfl)]) rfl, trivial⟩ ?_
 intro f23 s23 W23 hB23 g23 hg23 z23
 have fA23 := hB23.f fA22
 have b23_7 := hB23.b (hB22.b b21_7)
 have q94' := (q91'.below hB23.below)
 have q95' := (q92'.below hB23.below)
 have q96' := (q93'.below hB23.below)
 refine hK21 _ _ ?_
 have k23_11 := kt hg23 11 (kt hg22 11 (kt hg20 11 k19_11))
 have k23_12 := kt hg23 12 (kt hg22 12 (kt hg20 12 k19_12))
 have k23_13 := kt hg23 13 k22_13
 have k23_43 := kt hg23 43 (hB23.is 1)
 refine wp_cond_true ((fr_eval rfl).trans k23_43) ?_
 refine wp_skip ?_
 refine hK20 _ _ ?_
 refine wp_seq_k fun K23 hK23 => ?_
 refine wp_block ?_
 as_aux_lemma =>
 refine ry 10 [(46, 0), (47, 1), (48, 2), (49, 3), (50, 4), (51, 5), (52, 6), (53, 7), (54, 8), (55, 9)] [[], [0], [], [1, 2], [3], [], [], [5, 6], [4, 7], [1, 2], [0, 1, 2, 3, 4, 5, 6, 7, 8, 9]] (rel [is (.pointer (some ⟨(s7 2), 1, none⟩)), is (.slice (some ⟨g37', 0, none⟩) 4 c40'), iI 3, is (.pointer (some ⟨g37', 3, none⟩)), iI p3, is (.func (.func 40) #[] #[.pointer (some ⟨(s1 1), 0, none⟩), .pointer (some ⟨(s2 11), 0, none⟩)]), iI 3, iI (dd 3), iI (p3 + (dd 3)), is (.pointer (some ⟨g37', 3, none⟩))])
  ⟨fun f s W hW m p q r a => opv rfl rfl (by simp [go_sem, a.e 11 k23_11]) rfl,
  fun f s W hW m p q r a => opv rfl rfl (by simp [go_sem, a.e 46 (m 0 rfl), cb b23_7 hW 1]) rfl,
  fun f s W hW m p q r a => opm (a.v 13 k23_13),
  fun f s W hW m p q r a => opv rfl rfl (by simp [go_sem, a.e 47 (m 1 rfl), a.e 48 (m 2 rfl)]) rfl,
  fun f s W hW m p q r a => by have u4_ : W.cell? ⟨g37', 3, none⟩ = some (.int .i64 (p3)) := (OwnI.cell ((q96'.below hW)) (i := 3) (by simp)); exact opv rfl rfl (by simp [go_sem, a.e 49 (m 3 rfl), u4_]) rfl,
  fun f s W hW m p q r a => opm (a.v 12 k23_12),
  fun f s W hW m p q r a => opm (a.v 13 k23_13),
  fun f s W hW m p q r a => by have aW := bwt fA23 hW; exact opd (args := #[.int .i64 3, .pointer (some ⟨(s1 1), 0, none⟩), .pointer (some ⟨(s2 11), 0, none⟩)]) rfl rfl (by simp [go_sem, a.e 52 (m 6 rfl), a.e 51 (m 5 rfl)]) ((by_any ws off 3 (s1 1) (s2 11) W (bwb b5_1 aW) (bwb b5_5 aW) (by decide) (gws 3 (by decide)) gof : Calls _ _ #[.int .i64 3, _, _] W _)) ((fun e W' h => by have h1 := h.1; rw [hdd 3 (by decide)] at h1; exact ⟨_, h1, h.2, rfl⟩)),
  fun f s W hW m p q r a => opv rfl rfl (by simp [go_sem, a.e 50 (m 4 rfl), a.e 53 (m 7 rfl), IntWalk.i64_in (p3 + (dd 3)) (by omega)]) rfl,
  fun f s W hW m p q r a => opv rfl rfl (by simp [go_sem, a.e 47 (m 1 rfl), a.e 48 (m 2 rfl)]) rfl, trivial⟩ ?_
 intro f24 s24 W24 hB24 g24 hg24 z24
 have fB24 := hB24.f (hB23.f (hB22.f fB21))
 have fA24 := hB24.f fA23
 have b24_7 := hB24.b b23_7
 have q97' := (q94'.below hB24.below)
 have q98' := (q95'.below hB24.below)
 have q99' := (q96'.below hB24.below)
 have k24_13 := kt hg24 13 k23_13
 have k24_54 := kt hg24 54 (hB24.is 8)
 have k24_55 := kt hg24 55 (hB24.is 9)
 obtain ⟨W25, st25, ow25, ot25, z25, fB25, ax25⟩ := storeIA_tail (c := c40') (i := 3) (x := p3 + (dd 3)) ([p0 + (dd 0), p1 + (dd 1), p2 + (dd 2), p3 + (dd 3)]) (by simp) rfl fB24 q99'
 refine tsk (o := _) rfl ⟨rfl, rfl⟩ (st25 (fr_ev k24_55) (fr_ev k24_54)) ?_
 have fA25 := ax25 _ fA24 (by omega)
 have b25_7 := ot25 _ _ nea b24_7
 have q100' := q97'.other ot25 nea z25
 have q101' := q98'.other ot25 nea z25
 refine wpe ?_
 refine ibn ?_
 refine hK23 _ _ ?_
 as_aux_lemma =>
 refine ry 3 [(44, 0), (45, 1), (13, 2)] [[], [0], [0, 1]] (rel [iI 3, iI 4, iI 4])
  ⟨fun f s W hW m p q r a => opm (a.v 13 ((q 2 13 rfl rfl).trans k24_13)),
  fun f s W hW m p q r a => opv rfl rfl (by simp [go_sem, a.e 44 (m 0 rfl), IntWalk.i64_in (4) (by omega)]) rfl,
  fun f s W hW m p q r a => opm (a.v 45 (m 1 rfl)), trivial⟩ ?_
 intro f26 s26 W26 hB26 g26 hg26 z26
 have fA26 := hB26.f fA25
 have q102' := (q100'.below hB26.below)
 have q103' := (q101'.below hB26.below)
 have q104' := (ow25.below hB26.below)
 refine wpe ?_
 have k26_13 := kt hg26 13 (hB26.is 2)
 refine then_normal ?_
 rw [rounds_succ]
 refine wp_seq_k fun K24 hK24 => ?_
 refine wp_seq_k fun K25 hK25 => ?_
 as_aux_lemma =>
 refine ry 2 [(42, 0), (43, 1)] [[], [0]] (rel [iI 4, iB false])
  ⟨fun f s W hW m p q r a => opm (a.v 13 k26_13),
  fun f s W hW m p q r a => opv rfl rfl (by simp [go_sem, a.e 42 (m 0 rfl)]) rfl, trivial⟩ ?_
 intro f27 s27 W27 hB27 g27 hg27 z27
 have fA27 := hB27.f fA26
 have q105' := (q102'.below hB27.below)
 have q106' := (q103'.below hB27.below)
 have q107' := (q104'.below hB27.below)
 refine hK25 _ _ ?_
 have k27_43 := kt hg27 43 (hB27.is 1)
 refine wp_cond_false ((fr_eval rfl).trans k27_43) ?_
 refine wp_exit ?_
 refine then_exit ?_
 refine then_exit ?_
 refine inBlock_at ?_
 refine hK6 _ _ ?_
 refine wp_seq_k fun K27 hK27 => ?_
 refine wp_seq_k fun K28 hK28 => ?_
 as_aux_lemma =>
 refine ry 1 [(14, 0)] [[]] (rel [iI 0])
  ⟨fun f s W hW m p q r a => opz, trivial⟩ ?_
 intro f28 s28 W28 hB28 g28 hg28 z28
 have fA28 := hB28.f fA27
 have q108' := (q105'.below hB28.below)
 have q109' := (q106'.below hB28.below)
 have q110' := (q107'.below hB28.below)
 refine hK28 _ _ ?_
 have k28_14 := kt hg28 14 (hB28.is 0)
 refine wp_block ?_
 refine wp_loop_rounds 3 ?_
 rw [rounds_succ]
 refine wp_seq_k fun K29 hK29 => ?_
 refine wp_seq_k fun K30 hK30 => ?_
 as_aux_lemma =>
 refine ry 2 [(56, 0), (57, 1)] [[], [0]] (rel [iI 0, iB true])
  ⟨fun f s W hW m p q r a => opm (a.v 14 k28_14),
  fun f s W hW m p q r a => opv rfl rfl (by simp [go_sem, a.e 56 (m 0 rfl)]) rfl, trivial⟩ ?_
 intro f29 s29 W29 hB29 g29 hg29 z29
 have fA29 := hB29.f fA28
 have b29_7 := hB29.b (hB28.b (hB27.b (hB26.b b25_7)))
 have q111' := (q108'.below hB29.below)
 have q112' := (q109'.below hB29.below)
 have q113' := (q110'.below hB29.below)
 refine hK30 _ _ ?_
 have k29_11 := kt hg29 11 (kt hg28 11 (kt hg27 11 (kt hg26 11 (kt hg24 11 k23_11))))
 have k29_12 := kt hg29 12 (kt hg28 12 (kt hg27 12 (kt hg26 12 (kt hg24 12 k23_12))))
 have k29_14 := kt hg29 14 k28_14
 have k29_57 := kt hg29 57 (hB29.is 1)
 refine wp_cond_true ((fr_eval rfl).trans k29_57) ?_
 refine wp_skip ?_
 refine hK29 _ _ ?_
 refine wp_seq_k fun K32 hK32 => ?_
 suffices J114' : ∀ (g_ : Nat → Value) (W_ : World), (∃ (zt0 : Int), g_ 5 = .pointer (some ⟨(s1 2), 0, none⟩) ∧ g_ 6 = .bool false ∧ g_ 7 = .pointer (some ⟨(s2 9), 0, none⟩) ∧ g_ 8 = .pointer (some ⟨(s2 10), 0, none⟩) ∧ g_ 9 = .pointer (some ⟨(s2 11), 0, none⟩) ∧ g_ 10 = .pointer (some ⟨(s4 4), 0, none⟩) ∧ g_ 11 = .pointer (some ⟨(s7 2), 0, none⟩) ∧ g_ 12 = .func (.func 40) #[] #[.pointer (some ⟨(s1 1), 0, none⟩), .pointer (some ⟨(s2 11), 0, none⟩)] ∧ g_ 14 = .int .i64 0 ∧ g_ 57 = .bool true ∧ Below w.heap.size w W_ ∧ W29.heap.size ≤ W_.heap.size ∧ Below W5.heap.size W5 W_ ∧ W_.heap[(s7 2)]? = some (.cells #[.int .i64 30, .slice (some ⟨g37', 0, none⟩) 4 c40', .int .i64 hh, .slice (some ⟨g38', 0, none⟩) 2 c41', .slice (some ⟨g39', 0, none⟩) 2 c42', .int .i64 9, .bool b.isOpen] 24 (0, 0)) ∧ OwnI w.heap.size ([p0 + (dd 0), p1 + (dd 1), p2 + (dd 2), p3 + (dd 3)]) g37' c40' W_ ∧ OwnI w.heap.size ([max 0 (u0 + (dd 4)), u1]) g39' c42' W_ ∧ OwnI w.heap.size ([zt0, t1]) g38' c41' W_ ∧ zt0 = (if b.isOpen = true then t0 else max 0 (t0 + dd 6))) → K32 (fr 222 g_) W_ by
  refine wp_block ?_
  refine wp_seq_k fun K33 hK33 => ?_
  as_aux_lemma =>
  refine ry 15 [(60, 0), (61, 1), (62, 2), (63, 3), (64, 4), (65, 5), (66, 6), (67, 7), (68, 8), (69, 9), (70, 10), (71, 11), (72, 12), (73, 13), (74, 14)] [[], [0], [], [], [3], [], [4, 5], [6], [], [], [9], [8, 10], [7, 11], [12], [1, 2], [0, 1, 2, 3, 4, 5, 6, 7, 8, 9, 10, 11, 12, 13, 14]] (rel [is (.pointer (some ⟨(s7 2), 4, none⟩)), is (.slice (some ⟨g39', 0, none⟩) 2 c42'), iI 0, is (.pointer (some ⟨(s7 2), 4, none⟩)), is (.slice (some ⟨g39', 0, none⟩) 2 c42'), iI 0, is (.pointer (some ⟨g39', 0, none⟩)), iI u0, is (.func (.func 40) #[] #[.pointer (some ⟨(s1 1), 0, none⟩), .pointer (some ⟨(s2 11), 0, none⟩)]), iI 0, iI 4, iI (dd 4), iI (u0 + (dd 4)), iI (max 0 (u0 + (dd 4))), is (.pointer (some ⟨g39', 0, none⟩))])
   ⟨fun f s W hW m p q r a => opv rfl rfl (by simp [go_sem, a.e 11 k29_11]) rfl,
  fun f s W hW m p q r a => opv rfl rfl (by simp [go_sem, a.e 60 (m 0 rfl), cb b29_7 hW 4]) rfl,
  fun f s W hW m p q r a => opm (a.v 14 k29_14),
  fun f s W hW m p q r a => opv rfl rfl (by simp [go_sem, a.e 11 k29_11]) rfl,
  fun f s W hW m p q r a => opv rfl rfl (by simp [go_sem, a.e 63 (m 3 rfl), cb b29_7 hW 4]) rfl,
  fun f s W hW m p q r a => opm (a.v 14 k29_14),
  fun f s W hW m p q r a => opv rfl rfl (by simp [go_sem, a.e 64 (m 4 rfl), a.e 65 (m 5 rfl)]) rfl,
  fun f s W hW m p q r a => by have u7_ : W.cell? ⟨g39', 0, none⟩ = some (.int .i64 (u0)) := (OwnI.cell ((q112'.below hW)) (i := 0) (by simp)); exact opv rfl rfl (by simp [go_sem, a.e 66 (m 6 rfl), u7_]) rfl,
  fun f s W hW m p q r a => opm (a.v 12 k29_12),
  fun f s W hW m p q r a => opm (a.v 14 k29_14),
  fun f s W hW m p q r a => opv rfl rfl (by simp [go_sem, a.e 69 (m 9 rfl), IntWalk.i64_in (4) (by omega)]) rfl,
  fun f s W hW m p q r a => by have aW := bwt fA29 hW; exact opd (args := #[.int .i64 4, .pointer (some ⟨(s1 1), 0, none⟩), .pointer (some ⟨(s2 11), 0, none⟩)]) rfl rfl (by simp [go_sem, a.e 70 (m 10 rfl), a.e 68 (m 8 rfl)]) ((by_any ws off 4 (s1 1) (s2 11) W (bwb b5_1 aW) (bwb b5_5 aW) (by decide) (gws 4 (by decide)) gof : Calls _ _ #[.int .i64 4, _, _] W _)) ((fun e W' h => by have h1 := h.1; rw [hdd 4 (by decide)] at h1; exact ⟨_, h1, h.2, rfl⟩)),
  fun f s W hW m p q r a => opv rfl rfl (by simp [go_sem, a.e 67 (m 7 rfl), a.e 71 (m 11 rfl), IntWalk.i64_in (u0 + (dd 4)) (by omega)]) rfl,
  fun f s W hW m p q r a => opv rfl rfl (by simp [go_sem, a.e 72 (m 12 rfl)]) rfl,
  fun f s W hW m p q r a => opv rfl rfl (by simp [go_sem, a.e 61 (m 1 rfl), a.e 62 (m 2 rfl)]) rfl, trivial⟩ ?_
  intro f30 s30 W30 hB30 g30 hg30 z30
  have fB30 := hB30.f (hB29.f (hB28.f (hB27.f (hB26.f fB25))))
  have fA30 := hB30.f fA29
  have b30_7 := hB30.b b29_7
  have q115' := (q111'.below hB30.below)
  have q116' := (q112'.below hB30.below)
  have q117' := (q113'.below hB30.below)
  have k30_7 := kt hg30 7 (kt hg29 7 (kt hg28 7 (kt hg27 7 (kt hg26 7 (kt hg24 7 (kt hg23 7 (kt hg22 7 (kt hg20 7 (kt hg19 7 (kt hg18 7 (kt hg16 7 (kt hg15 7 (kt hg14 7 (kt hg12 7 (kt hg11 7 (kt hg10 7 (kt hg9 7 (kt hg7 7 k4_7))))))))))))))))))
  have k30_73 := kt hg30 73 (hB30.is 13)
  have k30_74 := kt hg30 74 (hB30.is 14)
  obtain ⟨W31, st31, ow31, ot31, z31, fB31, ax31⟩ := storeIA_tail (c := c42') (i := 0) (x := max 0 (u0 + (dd 4))) ([max 0 (u0 + (dd 4)), u1]) (by simp) rfl fB30 q116'
  refine tsk (o := _) rfl ⟨rfl, rfl⟩ (st31 (fr_ev k30_74) (fr_ev k30_73)) ?_
  have fA31 := ax31 _ fA30 (by omega)
  have b31_7 := ot31 _ _ nea b30_7
  have q118' := q115'.other ot31 nea z31
  have q119' := q117'.other ot31 nea z31
  refine wpe ?_
  refine hK33 _ _ ?_
  refine wp_seq_k fun K34 hK34 => ?_
  as_aux_lemma =>
  refine ry 3 [(75, 0), (76, 1), (77, 2)] [[], [0], [1]] (rel [is (.pointer (some ⟨(s2 9), 6, none⟩)), iB b.isOpen, iB (!(b.isOpen))])
   ⟨fun f s W hW m p q r a => opv rfl rfl (by simp [go_sem, a.e 7 k30_7]) rfl,
  fun f s W hW m p q r a => by have aW := bwt fA31 hW; exact opv rfl rfl (by simp [go_sem, a.e 75 (m 0 rfl), cb b5_3 aW 6]) rfl,
  fun f s W hW m p q r a => opv rfl rfl (by simp [go_sem, a.e 76 (m 1 rfl)]) rfl, trivial⟩ ?_
  intro f32 s32 W32 hB32 g32 hg32 z32
  have fB32 := hB32.f fB31
  have fA32 := hB32.f fA31
  have b32_7 := hB32.b b31_7
  have q120' := (q118'.below hB32.below)
  have q121' := (q119'.below hB32.below)
  have q122' := (ow31.below hB32.below)
  refine hK34 _ _ ?_
  have k32_5 := kt hg32 5 (kt hg30 5 (kt hg29 5 (kt hg28 5 (kt hg27 5 (kt hg26 5 (kt hg24 5 (kt hg23 5 (kt hg22 5 (kt hg20 5 (kt hg19 5 (kt hg18 5 (kt hg16 5 (kt hg15 5 (kt hg14 5 (kt hg12 5 (kt hg11 5 (kt hg10 5 (kt hg9 5 (kt hg7 5 (kt hg4 5 (kt hg2 5 k1_5)))))))))))))))))))))
  have k32_6 := kt hg32 6 (kt hg30 6 (kt hg29 6 (kt hg28 6 (kt hg27 6 (kt hg26 6 (kt hg24 6 (kt hg23 6 (kt hg22 6 (kt hg20 6 (kt hg19 6 (kt hg18 6 (kt hg16 6 (kt hg15 6 (kt hg14 6 (kt hg12 6 (kt hg11 6 (kt hg10 6 (kt hg9 6 (kt hg7 6 (kt hg4 6 (kt hg2 6 (kt hg1 6 (hB1.is 3)))))))))))))))))))))))
  have k32_7 := kt hg32 7 k30_7
  have k32_8 := kt hg32 8 (kt hg30 8 (kt hg29 8 (kt hg28 8 (kt hg27 8 (kt hg26 8 (kt hg24 8 (kt hg23 8 (kt hg22 8 (kt hg20 8 (kt hg19 8 (kt hg18 8 (kt hg16 8 (kt hg15 8 (kt hg14 8 (kt hg12 8 (kt hg11 8 (kt hg10 8 (kt hg9 8 (kt hg7 8 (kt hg4 8 k2_8))))))))))))))))))))
  have k32_9 := kt hg32 9 (kt hg30 9 (kt hg29 9 (kt hg28 9 (kt hg27 9 (kt hg26 9 (kt hg24 9 (kt hg23 9 (kt hg22 9 (kt hg20 9 (kt hg19 9 (kt hg18 9 (kt hg16 9 (kt hg15 9 (kt hg14 9 (kt hg12 9 (kt hg11 9 (kt hg10 9 (kt hg9 9 k7_9))))))))))))))))))
  have k32_10 := kt hg32 10 (kt hg30 10 (kt hg29 10 (kt hg28 10 (kt hg27 10 (kt hg26 10 (kt hg24 10 (kt hg23 10 (kt hg22 10 (kt hg20 10 (kt hg19 10 (kt hg18 10 (kt hg16 10 (kt hg15 10 (kt hg14 10 (kt hg12 10 (kt hg11 10 (kt hg10 10 (kt hg9 10 (kt hg7 10 k4_10)))))))))))))))))))
  have k32_11 := kt hg32 11 (kt hg30 11 k29_11)
  have k32_12 := kt hg32 12 (kt hg30 12 k29_12)
  have k32_14 := kt hg32 14 (kt hg30 14 k29_14)
  have k32_57 := kt hg32 57 (kt hg30 57 k29_57)
  have k32_77 := kt hg32 77 (hB32.is 2)
  refine wp_cond_split (t := !(b.isOpen)) ((fr_eval rfl).trans k32_77) (fun hc35 => ?_) (fun hc35 => ?_)
  ·
   have hc35' := hc35; try simp only [ba] at hc35'
   as_aux_lemma =>
   refine ry 15 [(78, 0), (79, 1), (80, 2), (81, 3), (82, 4), (83, 5), (84, 6), (85, 7), (86, 8), (87, 9), (88, 10), (89, 11), (90, 12), (91, 13), (92, 14)] [[], [0], [], [], [3], [], [4, 5], [6], [], [], [9], [8, 10], [7, 11], [12], [1, 2], [0, 1, 2, 3, 4, 5, 6, 7, 8, 9, 10, 11, 12, 13, 14]] (rel [is (.pointer (some ⟨(s7 2), 3, none⟩)), is (.slice (some ⟨g38', 0, none⟩) 2 c41'), iI 0, is (.pointer (some ⟨(s7 2), 3, none⟩)), is (.slice (some ⟨g38', 0, none⟩) 2 c41'), iI 0, is (.pointer (some ⟨g38', 0, none⟩)), iI t0, is (.func (.func 40) #[] #[.pointer (some ⟨(s1 1), 0, none⟩), .pointer (some ⟨(s2 11), 0, none⟩)]), iI 0, iI 6, iI (dd 6), iI (t0 + (dd 6)), iI (max 0 (t0 + (dd 6))), is (.pointer (some ⟨g38', 0, none⟩))])
    ⟨fun f s W hW m p q r a => opv rfl rfl (by simp [go_sem, a.e 11 k32_11]) rfl,
  fun f s W hW m p q r a => opv rfl rfl (by simp [go_sem, a.e 78 (m 0 rfl), cb b32_7 hW 3]) rfl,
  fun f s W hW m p q r a => opm (a.v 14 k32_14),
  fun f s W hW m p q r a => opv rfl rfl (by simp [go_sem, a.e 11 k32_11]) rfl,
  fun f s W hW m p q r a => opv rfl rfl (by simp [go_sem, a.e 81 (m 3 rfl), cb b32_7 hW 3]) rfl,
  fun f s W hW m p q r a => opm (a.v 14 k32_14),
  fun f s W hW m p q r a => opv rfl rfl (by simp [go_sem, a.e 82 (m 4 rfl), a.e 83 (m 5 rfl)]) rfl,
  fun f s W hW m p q r a => by have u7_ : W.cell? ⟨g38', 0, none⟩ = some (.int .i64 (t0)) := (OwnI.cell ((q120'.below hW)) (i := 0) (by simp)); exact opv rfl rfl (by simp [go_sem, a.e 84 (m 6 rfl), u7_]) rfl,
  fun f s W hW m p q r a => opm (a.v 12 k32_12),
  fun f s W hW m p q r a => opm (a.v 14 k32_14),
  fun f s W hW m p q r a => opv rfl rfl (by simp [go_sem, a.e 87 (m 9 rfl), IntWalk.i64_in (6) (by omega)]) rfl,
  fun f s W hW m p q r a => by have aW := bwt fA32 hW; exact opd (args := #[.int .i64 6, .pointer (some ⟨(s1 1), 0, none⟩), .pointer (some ⟨(s2 11), 0, none⟩)]) rfl rfl (by simp [go_sem, a.e 88 (m 10 rfl), a.e 86 (m 8 rfl)]) ((by_any ws off 6 (s1 1) (s2 11) W (bwb b5_1 aW) (bwb b5_5 aW) (by decide) (gws 6 (by decide)) gof : Calls _ _ #[.int .i64 6, _, _] W _)) ((fun e W' h => by have h1 := h.1; rw [hdd 6 (by decide)] at h1; exact ⟨_, h1, h.2, rfl⟩)),
  fun f s W hW m p q r a => opv rfl rfl (by simp [go_sem, a.e 85 (m 7 rfl), a.e 89 (m 11 rfl), IntWalk.i64_in (t0 + (dd 6)) (by omega)]) rfl,
  fun f s W hW m p q r a => opv rfl rfl (by simp [go_sem, a.e 90 (m 12 rfl)]) rfl,
  fun f s W hW m p q r a => opv rfl rfl (by simp [go_sem, a.e 79 (m 1 rfl), a.e 80 (m 2 rfl)]) rfl, trivial⟩ ?_
   intro f33 s33 W33 hB33 g33 hg33 z33
   have fB33 := hB33.f fB32
   have fA33 := hB33.f fA32
   have b33_7 := hB33.b b32_7
   have q123' := (q120'.below hB33.below)
   have q124' := (q121'.below hB33.below)
   have q125' := (q122'.below hB33.below)
   have k33_5 := kt hg33 5 k32_5
   have k33_6 := kt hg33 6 k32_6
   have k33_7 := kt hg33 7 k32_7
   have k33_8 := kt hg33 8 k32_8
   have k33_9 := kt hg33 9 k32_9
   have k33_10 := kt hg33 10 k32_10
   have k33_11 := kt hg33 11 k32_11
   have k33_12 := kt hg33 12 k32_12
   have k33_14 := kt hg33 14 k32_14
   have k33_57 := kt hg33 57 k32_57
   have k33_91 := kt hg33 91 (hB33.is 13)
   have k33_92 := kt hg33 92 (hB33.is 14)
   obtain ⟨W34, st34, ow34, ot34, z34, fB34, ax34⟩ := storeIA_tail (c := c41') (i := 0) (x := max 0 (t0 + (dd 6))) ([max 0 (t0 + (dd 6)), t1]) (by simp) rfl fB33 q123'
   refine tsk (o := _) rfl ⟨rfl, rfl⟩ (st34 (fr_ev k33_92) (fr_ev k33_91)) ?_
   have fA34 := ax34 _ fA33 (by omega)
   have b34_7 := ot34 _ _ nea b33_7
   have q126' := q124'.other ot34 nea z34
   have q127' := q125'.other ot34 nea z34
   refine wpe ?_
   refine ibn ?_
   exact J114' _ _ ⟨max 0 (t0 + (dd 6)), k33_5, k33_6, k33_7, k33_8, k33_9, k33_10, k33_11, k33_12, k33_14, k33_57, fB34, (by omega), fA34, b34_7, q126', q127', ow34, (by rw [if_neg (by simpa using hc35)])⟩
  ·
   have hc35' := hc35; try simp only [ba] at hc35'
   refine wp_skip ?_
   refine ibn ?_
   exact J114' _ _ ⟨t0, k32_5, k32_6, k32_7, k32_8, k32_9, k32_10, k32_11, k32_12, k32_14, k32_57, fB32, (by omega), fA32, b32_7, q121', q122', q120', (by rw [if_pos (by simpa using hc35)])⟩
 rintro g_128 W_128 ⟨zt0, k_128_5, k_128_6, k_128_7, k_128_8, k_128_9, k_128_10, k_128_11, k_128_12, k_128_14, k_128_57, fB_128, z_128, fA_128, b_128_0, q129', q130', q131', zp_0⟩
 refine hK32 _ _ ?_
 as_aux_lemma =>
 refine ry 3 [(58, 0), (59, 1), (14, 2)] [[], [0], [0, 1]] (rel [iI 0, iI 1, iI 1])
  ⟨fun f s W hW m p q r a => opm (a.v 14 ((q 2 14 rfl rfl).trans k_128_14)),
  fun f s W hW m p q r a => opv rfl rfl (by simp [go_sem, a.e 58 (m 0 rfl), IntWalk.i64_in (1) (by omega)]) rfl,
  fun f s W hW m p q r a => opm (a.v 59 (m 1 rfl)), trivial⟩ ?_
 intro f35 s35 W35 hB35 g35 hg35 z35
 have fA35 := hB35.f fA_128
 have q132' := (q129'.below hB35.below)
 have q133' := (q130'.below hB35.below)
 have q134' := (q131'.below hB35.below)
 refine wpe ?_
 have k35_14 := kt hg35 14 (hB35.is 2)
 refine then_normal ?_
 rw [rounds_succ]
 refine wp_seq_k fun K36 hK36 => ?_
 refine wp_seq_k fun K37 hK37 => ?_
 as_aux_lemma =>
 refine ry 2 [(56, 0), (57, 1)] [[], [0]] (rel [iI 1, iB true])
  ⟨fun f s W hW m p q r a => opm (a.v 14 k35_14),
  fun f s W hW m p q r a => opv rfl rfl (by simp [go_sem, a.e 56 (m 0 rfl)]) rfl, trivial⟩ ?_
 intro f36 s36 W36 hB36 g36 hg36 z36
 have fA36 := hB36.f fA35
 have b36_7 := hB36.b (hB35.b b_128_0)
 have q135' := (q132'.below hB36.below)
 have q136' := (q133'.below hB36.below)
 have q137' := (q134'.below hB36.below)
 refine hK37 _ _ ?_
 have k36_11 := kt hg36 11 (kt hg35 11 k_128_11)
 have k36_12 := kt hg36 12 (kt hg35 12 k_128_12)
 have k36_14 := kt hg36 14 k35_14
 have k36_57 := kt hg36 57 (hB36.is 1)
 refine wp_cond_true ((fr_eval rfl).trans k36_57) ?_
 refine wp_skip ?_
 refine hK36 _ _ ?_
 refine wp_seq_k fun K39 hK39 => ?_
 suffices J138' : ∀ (g_ : Nat → Value) (W_ : World), (∃ (zt1 : Int), g_ 5 = .pointer (some ⟨(s1 2), 0, none⟩) ∧ g_ 6 = .bool false ∧ g_ 7 = .pointer (some ⟨(s2 9), 0, none⟩) ∧ g_ 8 = .pointer (some ⟨(s2 10), 0, none⟩) ∧ g_ 9 = .pointer (some ⟨(s2 11), 0, none⟩) ∧ g_ 10 = .pointer (some ⟨(s4 4), 0, none⟩) ∧ g_ 11 = .pointer (some ⟨(s7 2), 0, none⟩) ∧ g_ 12 = .func (.func 40) #[] #[.pointer (some ⟨(s1 1), 0, none⟩), .pointer (some ⟨(s2 11), 0, none⟩)] ∧ g_ 14 = .int .i64 1 ∧ g_ 57 = .bool true ∧ Below w.heap.size w W_ ∧ W36.heap.size ≤ W_.heap.size ∧ Below W5.heap.size W5 W_ ∧ W_.heap[(s7 2)]? = some (.cells #[.int .i64 30, .slice (some ⟨g37', 0, none⟩) 4 c40', .int .i64 hh, .slice (some ⟨g38', 0, none⟩) 2 c41', .slice (some ⟨g39', 0, none⟩) 2 c42', .int .i64 9, .bool b.isOpen] 24 (0, 0)) ∧ OwnI w.heap.size ([p0 + (dd 0), p1 + (dd 1), p2 + (dd 2), p3 + (dd 3)]) g37' c40' W_ ∧ OwnI w.heap.size ([max 0 (u0 + (dd 4)), max 0 (u1 + (dd 5))]) g39' c42' W_ ∧ OwnI w.heap.size ([zt0, zt1]) g38' c41' W_ ∧ zt1 = (if b.isOpen = true then t1 else max 0 (t1 + dd 7))) → K39 (fr 222 g_) W_ by
  refine wp_block ?_
  refine wp_seq_k fun K40 hK40 => ?_
  as_aux_lemma =>
  refine ry 15 [(60, 0), (61, 1), (62, 2), (63, 3), (64, 4), (65, 5), (66, 6), (67, 7), (68, 8), (69, 9), (70, 10), (71, 11), (72, 12), (73, 13), (74, 14)] [[], [0], [], [], [3], [], [4, 5], [6], [], [], [9], [8, 10], [7, 11], [12], [1, 2], [0, 1, 2, 3, 4, 5, 6, 7, 8, 9, 10, 11, 12, 13, 14]] (rel [is (.pointer (some ⟨(s7 2), 4, none⟩)), is (.slice (some ⟨g39', 0, none⟩) 2 c42'), iI 1, is (.pointer (some ⟨(s7 2), 4, none⟩)), is (.slice (some ⟨g39', 0, none⟩) 2 c42'), iI 1, is (.pointer (some ⟨g39', 1, none⟩)), iI u1, is (.func (.func 40) #[] #[.pointer (some ⟨(s1 1), 0, none⟩), .pointer (some ⟨(s2 11), 0, none⟩)]), iI 1, iI 5, iI (dd 5), iI (u1 + (dd 5)), iI (max 0 (u1 + (dd 5))), is (.pointer (some ⟨g39', 1, none⟩))])
   ⟨fun f s W hW m p q r a => opv rfl rfl (by simp [go_sem, a.e 11 k36_11]) rfl,
  fun f s W hW m p q r a => opv rfl rfl (by simp [go_sem, a.e 60 (m 0 rfl), cb b36_7 hW 4]) rfl,
  fun f s W hW m p q r a => opm (a.v 14 k36_14),
  fun f s W hW m p q r a => opv rfl rfl (by simp [go_sem, a.e 11 k36_11]) rfl,
  fun f s W hW m p q r a => opv rfl rfl (by simp [go_sem, a.e 63 (m 3 rfl), cb b36_7 hW 4]) rfl,
  fun f s W hW m p q r a => opm (a.v 14 k36_14),
  fun f s W hW m p q r a => opv rfl rfl (by simp [go_sem, a.e 64 (m 4 rfl), a.e 65 (m 5 rfl)]) rfl,
  fun f s W hW m p q r a => by have u7_ : W.cell? ⟨g39', 1, none⟩ = some (.int .i64 (u1)) := (OwnI.cell ((q136'.below hW)) (i := 1) (by simp)); exact opv rfl rfl (by simp [go_sem, a.e 66 (m 6 rfl), u7_]) rfl,
  fun f s W hW m p q r a => opm (a.v 12 k36_12),
  fun f s W hW m p q r a => opm (a.v 14 k36_14),
  fun f s W hW m p q r a => opv rfl rfl (by simp [go_sem, a.e 69 (m 9 rfl), IntWalk.i64_in (5) (by omega)]) rfl,
  fun f s W hW m p q r a => by have aW := bwt fA36 hW; exact opd (args := #[.int .i64 5, .pointer (some ⟨(s1 1), 0, none⟩), .pointer (some ⟨(s2 11), 0, none⟩)]) rfl rfl (by simp [go_sem, a.e 70 (m 10 rfl), a.e 68 (m 8 rfl)]) ((by_any ws off 5 (s1 1) (s2 11) W (bwb b5_1 aW) (bwb b5_5 aW) (by decide) (gws 5 (by decide)) gof : Calls _ _ #[.int .i64 5, _, _] W _)) ((fun e W' h => by have h1 := h.1; rw [hdd 5 (by decide)] at h1; exact ⟨_, h1, h.2, rfl⟩)),
  fun f s W hW m p q r a => opv rfl rfl (by simp [go_sem, a.e 67 (m 7 rfl), a.e 71 (m 11 rfl), IntWalk.i64_in (u1 + (dd 5)) (by omega)]) rfl,
  fun f s W hW m p q r a => opv rfl rfl (by simp [go_sem, a.e 72 (m 12 rfl)]) rfl,
  fun f s W hW m p q r a => opv rfl rfl (by simp [go_sem, a.e 61 (m 1 rfl), a.e 62 (m 2 rfl)]) rfl, trivial⟩ ?_
  intro f37 s37 W37 hB37 g37 hg37 z37
  have fB37 := hB37.f (hB36.f (hB35.f fB_128))
  have fA37 := hB37.f fA36
  have b37_7 := hB37.b b36_7
  have q139' := (q135'.below hB37.below)
  have q140' := (q136'.below hB37.below)
  have q141' := (q137'.below hB37.below)
  have k37_7 := kt hg37 7 (kt hg36 7 (kt hg35 7 k_128_7))
  have k37_73 := kt hg37 73 (hB37.is 13)
  have k37_74 := kt hg37 74 (hB37.is 14)
  obtain ⟨W38, st38, ow38, ot38, z38, fB38, ax38⟩ := storeIA_tail (c := c42') (i := 1) (x := max 0 (u1 + (dd 5))) ([max 0 (u0 + (dd 4)), max 0 (u1 + (dd 5))]) (by simp) rfl fB37 q140'
  refine tsk (o := _) rfl ⟨rfl, rfl⟩ (st38 (fr_ev k37_74) (fr_ev k37_73)) ?_
  have fA38 := ax38 _ fA37 (by omega)
  have b38_7 := ot38 _ _ nea b37_7
  have q142' := q139'.other ot38 nea z38
  have q143' := q141'.other ot38 nea z38
  refine wpe ?_
  refine hK40 _ _ ?_
  refine wp_seq_k fun K41 hK41 => ?_
  as_aux_lemma =>
  refine ry 3 [(75, 0), (76, 1), (77, 2)] [[], [0], [1]] (rel [is (.pointer (some ⟨(s2 9), 6, none⟩)), iB b.isOpen, iB (!(b.isOpen))])
   ⟨fun f s W hW m p q r a => opv rfl rfl (by simp [go_sem, a.e 7 k37_7]) rfl,
  fun f s W hW m p q r a => by have aW := bwt fA38 hW; exact opv rfl rfl (by simp [go_sem, a.e 75 (m 0 rfl), cb b5_3 aW 6]) rfl,
  fun f s W hW m p q r a => opv rfl rfl (by simp [go_sem, a.e 76 (m 1 rfl)]) rfl, trivial⟩ ?_
  intro f39 s39 W39 hB39 g39 hg39 z39
  have fB39 := hB39.f fB38
  have fA39 := hB39.f fA38
  have b39_7 := hB39.b b38_7
  have q144' := (q142'.below hB39.below)
  have q145' := (q143'.below hB39.below)
  have q146' := (ow38.below hB39.below)
  refine hK41 _ _ ?_
  have k39_5 := kt hg39 5 (kt hg37 5 (kt hg36 5 (kt hg35 5 k_128_5)))
  have k39_6 := kt hg39 6 (kt hg37 6 (kt hg36 6 (kt hg35 6 k_128_6)))
  have k39_7 := kt hg39 7 k37_7
  have k39_8 := kt hg39 8 (kt hg37 8 (kt hg36 8 (kt hg35 8 k_128_8)))
  have k39_9 := kt hg39 9 (kt hg37 9 (kt hg36 9 (kt hg35 9 k_128_9)))
  have k39_10 := kt hg39 10 (kt hg37 10 (kt hg36 10 (kt hg35 10 k_128_10)))
  have k39_11 := kt hg39 11 (kt hg37 11 k36_11)
  have k39_12 := kt hg39 12 (kt hg37 12 k36_12)
  have k39_14 := kt hg39 14 (kt hg37 14 k36_14)
  have k39_57 := kt hg39 57 (kt hg37 57 k36_57)
  have k39_77 := kt hg39 77 (hB39.is 2)
  refine wp_cond_split (t := !(b.isOpen)) ((fr_eval rfl).trans k39_77) (fun hc42 => ?_) (fun hc42 => ?_)
  ·
   have hc42' := hc42; try simp only [ba] at hc42'
   as_aux_lemma =>
   refine ry 15 [(78, 0), (79, 1), (80, 2), (81, 3), (82, 4), (83, 5), (84, 6), (85, 7), (86, 8), (87, 9), (88, 10), (89, 11), (90, 12), (91, 13), (92, 14)] [[], [0], [], [], [3], [], [4, 5], [6], [], [], [9], [8, 10], [7, 11], [12], [1, 2], [0, 1, 2, 3, 4, 5, 6, 7, 8, 9, 10, 11, 12, 13, 14]] (rel [is (.pointer (some ⟨(s7 2), 3, none⟩)), is (.slice (some ⟨g38', 0, none⟩) 2 c41'), iI 1, is (.pointer (some ⟨(s7 2), 3, none⟩)), is (.slice (some ⟨g38', 0, none⟩) 2 c41'), iI 1, is (.pointer (some ⟨g38', 1, none⟩)), iI t1, is (.func (.func 40) #[] #[.pointer (some ⟨(s1 1), 0, none⟩), .pointer (some ⟨(s2 11), 0, none⟩)]), iI 1, iI 7, iI (dd 7), iI (t1 + (dd 7)), iI (max 0 (t1 + (dd 7))), is (.pointer (some ⟨g38', 1, none⟩))])
    ⟨fun f s W hW m p q r a => opv rfl rfl (by simp [go_sem, a.e 11 k39_11]) rfl,
  fun f s W hW m p q r a => opv rfl rfl (by simp [go_sem, a.e 78 (m 0 rfl), cb b39_7 hW 3]) rfl,
  fun f s W hW m p q r a => opm (a.v 14 k39_14),
  fun f s W hW m p q r a => opv rfl rfl (by simp [go_sem, a.e 11 k39_11]) rfl,
  fun f s W hW m p q r a => opv rfl rfl (by simp [go_sem, a.e 81 (m 3 rfl), cb b39_7 hW 3]) rfl,
  fun f s W hW m p q r a => opm (a.v 14 k39_14),
  fun f s W hW m p q r a => opv rfl rfl (by simp [go_sem, a.e 82 (m 4 rfl), a.e 83 (m 5 rfl)]) rfl,
  fun f s W hW m p q r a => by have u7_ : W.cell? ⟨g38', 1, none⟩ = some (.int .i64 (t1)) := (OwnI.cell ((q145'.below hW)) (i := 1) (by simp)); exact opv rfl rfl (by simp [go_sem, a.e 84 (m 6 rfl), u7_]) rfl,
  fun f s W hW m p q r a => opm (a.v 12 k39_12),
  fun f s W hW m p q r a => opm (a.v 14 k39_14),
  fun f s W hW m p q r a => opv rfl rfl (by simp [go_sem, a.e 87 (m 9 rfl), IntWalk.i64_in (7) (by omega)]) rfl,
  fun f s W hW m p q r a => by have aW := bwt fA39 hW; exact opd (args := #[.int .i64 7, .pointer (some ⟨(s1 1), 0, none⟩), .pointer (some ⟨(s2 11), 0, none⟩)]) rfl rfl (by simp [go_sem, a.e 88 (m 10 rfl), a.e 86 (m 8 rfl)]) ((by_any ws off 7 (s1 1) (s2 11) W (bwb b5_1 aW) (bwb b5_5 aW) (by decide) (gws 7 (by decide)) gof : Calls _ _ #[.int .i64 7, _, _] W _)) ((fun e W' h => by have h1 := h.1; rw [hdd 7 (by decide)] at h1; exact ⟨_, h1, h.2, rfl⟩)),
  fun f s W hW m p q r a => opv rfl rfl (by simp [go_sem, a.e 85 (m 7 rfl), a.e 89 (m 11 rfl), IntWalk.i64_in (t1 + (dd 7)) (by omega)]) rfl,
  fun f s W hW m p q r a => opv rfl rfl (by simp [go_sem, a.e 90 (m 12 rfl)]) rfl,
  fun f s W hW m p q r a => opv rfl rfl (by simp [go_sem, a.e 79 (m 1 rfl), a.e 80 (m 2 rfl)]) rfl, trivial⟩ ?_
   intro f40 s40 W40 hB40 g40 hg40 z40
   have fB40 := hB40.f fB39
   have fA40 := hB40.f fA39
   have b40_7 := hB40.b b39_7
   have q147' := (q144'.below hB40.below)
   have q148' := (q145'.below hB40.below)
   have q149' := (q146'.below hB40.below)
   have k40_5 := kt hg40 5 k39_5
   have k40_6 := kt hg40 6 k39_6
   have k40_7 := kt hg40 7 k39_7
   have k40_8 := kt hg40 8 k39_8
   have k40_9 := kt hg40 9 k39_9
   have k40_10 := kt hg40 10 k39_10
   have k40_11 := kt hg40 11 k39_11
   have k40_12 := kt hg40 12 k39_12
   have k40_14 := kt hg40 14 k39_14
   have k40_57 := kt hg40 57 k39_57
   have k40_91 := kt hg40 91 (hB40.is 13)
   have k40_92 := kt hg40 92 (hB40.is 14)
   obtain ⟨W41, st41, ow41, ot41, z41, fB41, ax41⟩ := storeIA_tail (c := c41') (i := 1) (x := max 0 (t1 + (dd 7))) ([zt0, max 0 (t1 + (dd 7))]) (by simp) rfl fB40 q148'
   refine tsk (o := _) rfl ⟨rfl, rfl⟩ (st41 (fr_ev k40_92) (fr_ev k40_91)) ?_
   have fA41 := ax41 _ fA40 (by omega)
   have b41_7 := ot41 _ _ nea b40_7
   have q150' := q147'.other ot41 nea z41
   have q151' := q149'.other ot41 nea z41
   refine wpe ?_
   refine ibn ?_
   exact J138' _ _ ⟨max 0 (t1 + (dd 7)), k40_5, k40_6, k40_7, k40_8, k40_9, k40_10, k40_11, k40_12, k40_14, k40_57, fB41, (by omega), fA41, b41_7, q150', q151', ow41, (by rw [if_neg (by simpa using hc42)])⟩
  ·
   have hc42' := hc42; try simp only [ba] at hc42'
   refine wp_skip ?_
   refine ibn ?_
   exact J138' _ _ ⟨t1, k39_5, k39_6, k39_7, k39_8, k39_9, k39_10, k39_11, k39_12, k39_14, k39_57, fB39, (by omega), fA39, b39_7, q144', q146', q145', (by rw [if_pos (by simpa using hc42)])⟩
 rintro g_152 W_152 ⟨zt1, k_152_5, k_152_6, k_152_7, k_152_8, k_152_9, k_152_10, k_152_11, k_152_12, k_152_14, k_152_57, fB_152, z_152, fA_152, b_152_0, q153', q154', q155', zq_0⟩
 refine hK39 _ _ ?_
 as_aux_lemma =>
 refine ry 3 [(58, 0), (59, 1), (14, 2)] [[], [0], [0, 1]] (rel [iI 1, iI 2, iI 2])
  ⟨fun f s W hW m p q r a => opm (a.v 14 ((q 2 14 rfl rfl).trans k_152_14)),
  fun f s W hW m p q r a => opv rfl rfl (by simp [go_sem, a.e 58 (m 0 rfl), IntWalk.i64_in (2) (by omega)]) rfl,
  fun f s W hW m p q r a => opm (a.v 59 (m 1 rfl)), trivial⟩ ?_
 intro f42 s42 W42 hB42 g42 hg42 z42
 have fA42 := hB42.f fA_152
 have q156' := (q153'.below hB42.below)
 have q157' := (q154'.below hB42.below)
 have q158' := (q155'.below hB42.below)
 refine wpe ?_
 have k42_14 := kt hg42 14 (hB42.is 2)
 refine then_normal ?_
 rw [rounds_succ]
 refine wp_seq_k fun K43 hK43 => ?_
 refine wp_seq_k fun K44 hK44 => ?_
 as_aux_lemma =>
 refine ry 2 [(56, 0), (57, 1)] [[], [0]] (rel [iI 2, iB false])
  ⟨fun f s W hW m p q r a => opm (a.v 14 k42_14),
  fun f s W hW m p q r a => opv rfl rfl (by simp [go_sem, a.e 56 (m 0 rfl)]) rfl, trivial⟩ ?_
 intro f43 s43 W43 hB43 g43 hg43 z43
 have fB43 := hB43.f (hB42.f fB_152)
 have fA43 := hB43.f fA42
 have b43_7 := hB43.b (hB42.b b_152_0)
 have q159' := (q156'.below hB43.below)
 have q160' := (q157'.below hB43.below)
 have q161' := (q158'.below hB43.below)
 refine hK44 _ _ ?_
 have k43_5 := kt hg43 5 (kt hg42 5 k_152_5)
 have k43_6 := kt hg43 6 (kt hg42 6 k_152_6)
 have k43_7 := kt hg43 7 (kt hg42 7 k_152_7)
 have k43_8 := kt hg43 8 (kt hg42 8 k_152_8)
 have k43_9 := kt hg43 9 (kt hg42 9 k_152_9)
 have k43_10 := kt hg43 10 (kt hg42 10 k_152_10)
 have k43_11 := kt hg43 11 (kt hg42 11 k_152_11)
 have k43_12 := kt hg43 12 (kt hg42 12 k_152_12)
 have k43_57 := kt hg43 57 (hB43.is 1)
 refine wp_cond_false ((fr_eval rfl).trans k43_57) ?_
 refine wp_exit ?_
 refine then_exit ?_
 refine then_exit ?_
 refine inBlock_at ?_
 refine hK27 _ _ ?_
 have q162' := (q34'.below fA43)
 have q163' := (q35'.below fA43)
 have q164' := (q36'.below fA43)
 have bl165' := bwb b5_0 fA43
 have bl166' := bwb b5_1 fA43
 have bl167' := bwb b5_2 fA43
 have bl168' := bwb b5_3 fA43
 have bl169' := bwb b5_4 fA43
 have bl170' := bwb b5_5 fA43
 have bl171' := bwb nb5 fA43
 exact truth_main_c15 x gx ws v0 v1 gv0 gv1 b d sb vi p0 p1 p2 p3 hh t0 t1 u0 u1 lo hi off cal q1 q2 n dd LI w gws hbx ht hcx hto hv hkd hck hcs hwv hof gof hdd gdd hbl hsn gp0 gp1 gp2 gp3 ghh gt0 gt1 gu0 gu1 j1 j2 j3 gmu hcal gcal hLI hL9 hmic hM hn1 hn2 hM2 hF hq hq1 hq2 n1 n2 n3 g43 W43 (s1 2) (s2 9) (s2 10) (s2 11) (s4 4) (s7 2) (s1 1) g19' c22' g20' c23' g21' c24' g37' c40' g39' c42' g38' c41' (s1 0) zt0 zt1 k43_5 k43_6 k43_7 k43_8 k43_9 k43_10 k43_11 k43_12 fB43 bl165' bl166' bl167' bl168' bl169' bl170' bl171' b43_7 q162' q163' q164' q159' q160' q161' (by omega) (by omega) (by omega) (by omega) (by omega) (by omega) (by omega) (by omega) nea nea nea nea nea nea nea nea nea nea nea nea nea nea nea nea nea nea nea nea nea nea nea nea nea nea nea nea nea nea nea nea nea nea nea nea nea nea nea nea nea nea nea nea nea nea nea nea nea nea nea nea nea nea nea zp_0 zq_0
theorem truth_law (x : Sh) (gx : ShIn x) (ws : Nat → Int) (v0 v1 : Int) (gws : ∀ j, j < 9 → -128 ≤ ws j ∧ ws j ≤ 127) (gv0 : 0 ≤ v0 ∧ v0 ≤ 255) (gv1 : 0 ≤ v1 ∧ v1 ≤ 255) (w : World) : Calls Tryz.prog 10 #[.agg #[.int .u8 x.x0, .int .u8 x.x1, .int .u8 x.x2, .int .u8 x.x3, .int .u8 x.xh, .int .u8 x.y0, .int .u8 x.y1, .int .u8 x.y2, .int .u8 x.y3, .bool x.xo, .int .u8 x.ca, .int .u8 x.cb, .int .u8 x.v0, .int .u8 x.v1, .int .u8 x.v2, .int .u8 x.v3, .int .u8 x.v4], .agg #[.int .i8 (ws 0), .int .i8 (ws 1), .int .i8 (ws 2), .int .i8 (ws 3), .int .i8 (ws 4), .int .i8 (ws 5), .int .i8 (ws 6), .int .i8 (ws 7), .int .i8 (ws 8)], .agg #[.int .u8 v0, .int .u8 v1]] w (fun e w' => e = .returned (.bool true) ∧ Below w.heap.size w w') := by
  have hkd := shBl_ok gx
  have hck := twin_ok hkd
  obtain ⟨c1, c2, c3⟩ := shCal_in gx
  have hwv : wishErr (wishOf x (twinB (shBl x)) (shCal x).1 (shCal x).2) = 0 := wish_ok x _ c2
  have hnil := fold_nil gx
  have hc := (close_cal hck hwv c1 c2 c3).1 hnil
  obtain ⟨off, hof⟩ : ∃ o, v0 % 6 = o := ⟨_, rfl⟩
  have gof : 0 ≤ off ∧ off ≤ 5 := by omega
  obtain ⟨dd, hdd⟩ : ∃ dd : Nat → Int, ∀ j, (ws j).tmod (off + 1) = dd j := ⟨_, fun _ => rfl⟩
  have gdo : ∀ j, j < 9 → -off ≤ dd j ∧ dd j ≤ off := fun j _ => by rw [← hdd j]; exact tmod_le gof.1
  have gdd : ∀ j, j < 9 → -5 ≤ dd j ∧ dd j ≤ 5 := fun j hj => by have := gdo j hj; omega
  have gmu : 0 ≤ v1 * ((shCal x).2 - (shCal x).1) ∧ v1 * ((shCal x).2 - (shCal x).1) ≤ 255 * ((shCal x).2 - (shCal x).1) := ⟨Int.mul_nonneg gv1.1 (by omega), Int.mul_le_mul_of_nonneg_right gv1.2 (by omega)⟩
  obtain ⟨cal, hcal⟩ : ∃ c, (shCal x).1 + (v1 * ((shCal x).2 - (shCal x).1)) / 255 = c := ⟨_, rfl⟩
  have gcal : (shCal x).1 ≤ cal ∧ cal ≤ (shCal x).2 := by omega
  have hhold : ∀ k, k < 10 → holdsR (twinB (shBl x)) (wishOf x (twinB (shBl x)) (shCal x).1 (shCal x).2) k cal = true := fun k hk => fold_holds gx gcal.1 gcal.2 hk
  obtain ⟨t0, ht0⟩ : ∃ t, (if x.xo = true then 0 else x.y2) = t := ⟨_, rfl⟩
  obtain ⟨t1, ht1⟩ : ∃ t, (if x.xo = true then 0 else x.y3) = t := ⟨_, rfl⟩
  have hbl : twinB (shBl x) = ⟨30, [60 + x.x0, 60 + x.x1, 60 + x.x0, 60 + x.x1], 40 + x.xh, [t0, t1], [x.y2, x.y3], 9, (twinB (shBl x)).isOpen⟩ := by
    rw [twinSh, ← ht0, ← ht1]
    cases x.xo <;> rfl
  have hoo : (twinB (shBl x)).isOpen = true → t0 = 0 ∧ t1 = 0 := fun e => by
    have e' : x.xo = true := e
    rw [← ht0, ← ht1, if_pos e', if_pos e']; exact ⟨rfl, rfl⟩
  have gx' := gx
  obtain ⟨g0, g1, -, -, gh, -, -, g2, g3, -⟩ := gx
  have gt0 : 0 ≤ t0 ∧ t0 ≤ 255 := by rw [← ht0]; split <;> omega
  have gt1 : 0 ≤ t1 ∧ t1 ≤ 255 := by rw [← ht1]; split <;> omega
  obtain ⟨sb, hsn⟩ : ∃ s : Bl, s = ⟨30, [60 + x.x0 + (dd 0), 60 + x.x1 + (dd 1), 60 + x.x0 + (dd 2), 60 + x.x1 + (dd 3)], 40 + x.xh + (dd 8), [if (twinB (shBl x)).isOpen = true then t0 else max 0 (t0 + dd 6), if (twinB (shBl x)).isOpen = true then t1 else max 0 (t1 + dd 7)], [max 0 (x.y2 + (dd 4)), max 0 (x.y3 + (dd 5))], 9, (twinB (shBl x)).isOpen⟩ := ⟨_, rfl⟩
  have hcs : checkErr sb = 0 := by rw [hsn]; exact seen_ok gdd (by omega) (by omega) (by omega) (by omega) (by omega) (by omega) (by omega) (by omega) (by omega) hoo
  have hnr : Near (twinB (shBl x)) sb off := by
    rw [hsn]
    conv => arg 1; rw [hbl]
    exact seen_near gdo gt0.1 gt1.1 g2.1 g3.1 gof.1
  have hln : (innerL sb ((shCal x).1, (shCal x).2) off).length = 9 := by rw [hsn]; exact seen_len _ _
  obtain ⟨n, hM, hn1, hn2⟩ := truth_may hnr gof.1 gof.2 hck hcs hwv rfl hhold c1 gcal.1 gcal.2 c3
  have hM2 := truth_may0 hck hwv rfl hhold (by omega) gcal.2 c3
  refine truth_main x gx' ws v0 v1 gv0 gv1 (twinB (shBl x)) (shBl x) sb (wishOf x (twinB (shBl x)) (shCal x).1 (shCal x).2) _ _ _ _ _ _ _ _ _ (shCal x).1 (shCal x).2 off cal (calOf (twinB (shBl x)) (wishOf x (twinB (shBl x)) (shCal x).1 (shCal x).2)).1 (calOf (twinB (shBl x)) (wishOf x (twinB (shBl x)) (shCal x).1 (shCal x).2)).2 n dd (innerL sb ((shCal x).1, (shCal x).2) off) w
    gws rfl rfl rfl rfl rfl hkd hck hcs hwv hof gof (fun j _ => hdd j) gdd hbl hsn (by omega) (by omega) (by omega) (by omega) (by omega) (by omega) (by omega) (by omega) (by omega) c1 c2 c3 gmu hcal gcal
    rfl hln (fun j hj => near_inner hnr gof.1 hck hcs gcal.1 gcal.2 hj) hM hn1 hn2 hM2 hc.1 rfl hc.2.1 hc.2.2 (by show 4 ≤ 1000; decide) (top_le x) (by show 2 ≤ 1000; decide)
end Go.Proofs.YthnediamopehfaaGreat
