/- Part of the proof: what the claim leans on. -/
import Derived.Test.YthnediamopehfaaGreatVMAS5
set_option maxHeartbeats 60000000
set_option maxRecDepth 100000
set_option linter.unusedSimpArgs false
set_option linter.unusedVariables false
namespace Go.Proofs.YthnediamopehfaaGreat
open Go.RowKit
theorem mayR_any (a1 a2 a3 : Option Addr) (c1 c2 c3 : Nat) (b : Bl) (vi : Wi) (cal off : Int) (w : World) (h1 : Ii w a1 b.panels.length c1 b.panels) (h2 : Ii w a2 b.top.length c2 b.top) (h3 : Ii w a3 b.bottom.length c3 b.bottom) (hck : checkErr b = 0) (hw : WishIn vi) (gof : 0 ≤ off ∧ off ≤ 5) (gcl : 0 ≤ cal ∧ cal ≤ 100000) :
  Calls Tryz.prog 32 #[.agg #[.int .i64 b.tab, .slice a1 (b.panels.length) c1, .int .i64 b.height, .slice a2 (b.top.length) c2, .slice a3 (b.bottom.length) c3, .int .i64 b.slot, .bool b.isOpen], .agg #[.int .i64 vi.length.1, .int .i64 vi.length.2, .int .i64 vi.width.1, .int .i64 vi.width.2, .int .i64 vi.height.1, .int .i64 vi.height.2, .int .i64 vi.outer.1, .int .i64 vi.outer.2, .int .i64 vi.inner.1, .int .i64 vi.inner.2, .bool vi.isOpen], .int .i64 cal, .int .i64 off] w (fun e w' => e = .returned (.bool (mayR b vi off cal)) ∧ Below w.heap.size w w') := by
 obtain ⟨⟨hl1, hl2, hl3⟩, -, gs, gh, -, gt0, gt1, gu0, gu1⟩ := good_nums hck
 have hof := gof
 obtain ⟨q1, o1, hq1, hql1, hqc1⟩ := h1.at (by omega)
 obtain ⟨q2, o2, hq2, hql2, hqc2⟩ := h2.at (by omega)
 obtain ⟨q3, o3, hq3, hql3, hqc3⟩ := h3.at (by omega)
 obtain ⟨H1, H2, Lo, Up, Ao, Bo, Eo, ⟨gH1, gH2, gH12⟩, gLU, hHH, hLU, hA0, hAs, hB0, hBs, hE0, hEs, hEnd⟩ := may_fns hck gof.1 vi cal
 have hneH : 0 < (rangeL H1 H2).length := by rw [rangeL_len]; omega
 obtain ⟨fb, hfb⟩ : ∃ fb : Nat → Int, ∀ i, b.bottom.getD i 0 = fb i := ⟨_, fun _ => rfl⟩
 obtain ⟨ft, hft⟩ : ∃ ft : Nat → Int, ∀ i, b.top.getD i 0 = ft i := ⟨_, fun _ => rfl⟩
 rw [hft] at gt0 gt1
 rw [hfb] at gu0 gu1
 refine calls_fr Tryz.func32 Tryz.ntmps32 rfl rfl fun g hg => ?_
 have k0 : g 0 = .agg #[.int .i64 b.tab, .slice a1 (b.panels.length) c1, .int .i64 b.height, .slice a2 (b.top.length) c2, .slice a3 (b.bottom.length) c3, .int .i64 b.slot, .bool b.isOpen] := hg 0
 have k1 : g 1 = .agg #[.int .i64 vi.length.1, .int .i64 vi.length.2, .int .i64 vi.width.1, .int .i64 vi.width.2, .int .i64 vi.height.1, .int .i64 vi.height.2, .int .i64 vi.outer.1, .int .i64 vi.outer.2, .int .i64 vi.inner.1, .int .i64 vi.inner.2, .bool vi.isOpen] := hg 1
 have k2 : g 2 = .int .i64 cal := hg 2
 have k3 : g 3 = .int .i64 off := hg 3
 clear hg
 have fB0 : Below w.heap.size w w := Below.refl _ _
 refine rw_ 3 [(4, 0), (5, 1), (8, 2)] [[], [], []] (rel [bx 0 #[.int .i64 b.tab, .slice a1 (b.panels.length) c1, .int .i64 b.height, .slice a2 (b.top.length) c2, .slice a3 (b.bottom.length) c3, .int .i64 b.slot, .bool b.isOpen] 24, bx 1 #[.int .i64 vi.length.1, .int .i64 vi.length.2, .int .i64 vi.width.1, .int .i64 vi.width.2, .int .i64 vi.height.1, .int .i64 vi.height.2, .int .i64 vi.outer.1, .int .i64 vi.outer.2, .int .i64 vi.inner.1, .int .i64 vi.inner.2, .bool vi.isOpen] 43, iB false])
  ⟨fun f s W l m q r u a => opb rfl rfl (by simp [go_sem, a.e 0 k0]),
  fun f s W l m q r u a => opb rfl rfl (by simp [go_sem, a.e 1 k1]),
  fun f s W l m q r u a => opz, trivial⟩ ?_
 intro f1 s1 W1 hB1 g1 hg1 z1
 have fB1 := hB1.f fB0
 obtain ⟨r1_0, br1_0⟩ := hB1.is 0
 have lr1_0 := hB1.lr 0 br1_0
 obtain ⟨r1_1, br1_1⟩ := hB1.is 1
 have lr1_1 := hB1.lr 1 br1_1
 have ne1_0_1 := hB1.nb 0 1
 have k1_4 := kt hg1 4 r1_0
 refine wp_seq_k fun K2 hK2 => ?_
 refine rz 3 [(17, 0), (18, 1), (9, 2)] [[], [0], [], [0, 1, 2]] (rel [is (.agg #[.int .i64 b.tab, .slice a1 (b.panels.length) c1, .int .i64 b.height, .slice a2 (b.top.length) c2, .slice a3 (b.bottom.length) c3, .int .i64 b.slot, .bool b.isOpen]), fun v s W => OwBlk (s 1) (b) v W, bx 2 #[.int .i64 0, .slice none 0 0, .int .i64 0, .slice none 0 0, .slice none 0 0, .int .i64 0, .bool false] 24])
  ⟨is_k, ⟨fun v k W W' hb h => h.below hb, fun v s s' W e h => by have h' : OwBlk (s 1) (b) v W := h; show OwBlk (s' 1) (b) v W; rw [← e 1 (by simp)]; exact h'⟩, bx_k, trivial⟩
  ⟨fun f s W l m q r u a => opv rfl rfl (by simp [go_sem, a.e 4 k1_4, cb br1_0 l 0, cb br1_0 l 1, cb br1_0 l 2, cb br1_0 l 3, cb br1_0 l 4, cb br1_0 l 5, cb br1_0 l 6]) rfl,
  fun f s W l m q r u a => by have y := bwt fB1 l; exact opd (args := #[.agg #[.int .i64 b.tab, .slice a1 (b.panels.length) c1, .int .i64 b.height, .slice a2 (b.top.length) c2, .slice a3 (b.bottom.length) c3, .int .i64 b.slot, .bool b.isOpen]]) rfl rfl (by simp [go_sem, a.e 17 (m 0 rfl)]) (copy_ow _ _ _ _ _ _ b W (h1.below y (Nat.le_refl _)) (h2.below y (Nat.le_refl _)) (h3.below y (Nat.le_refl _)) hck) (fun e W' h => by obtain ⟨v, e1, h1, h2⟩ := h; exact ⟨v, e1, h2, (show OwBlk (upd s 1 W.heap.size 1) (b) v W' from by rw [upd_at]; exact h1)⟩),
  fun f s W l m q r u a => opb rfl rfl (by simp [go_sem]), trivial⟩ ?_
 intro f2 s2 W2 hB2 g2 hg2 z2
 have fB2 := hB2.f fB1
 have b2_0 := hB2.b br1_0
 have b2_1 := hB2.b br1_1
 obtain ⟨g1', c4', g2', c5', g3', c6', r2_1, q7', q8', q9', q10', q11', q12'⟩ := hB2.is 1
 have la2_1 := hB2.from' 1 (by decide)
 have lo2_1_o0 := q7'.lim
 have q13' := q7'.low (B' := w.heap.size) (Nat.le_trans fB1.size (la2_1))
 have lo2_1_o1 := q8'.lim
 have q14' := q8'.low (B' := w.heap.size) (Nat.le_trans fB1.size (la2_1))
 have lo2_1_o2 := q9'.lim
 have q15' := q9'.low (B' := w.heap.size) (Nat.le_trans fB1.size (la2_1))
 obtain ⟨r2_2, br2_2⟩ := hB2.is 2
 have lr2_2 := hB2.lr 2 br2_2
 have oo2_1_o0_2 := hB2.off 1 2 (by decide) (by decide) (by decide) lo2_1_o0.1 (fun W h => (OwBlk.lt h r2_1).1) (fun _ _ _ h => ltb h.2)
 have oo2_1_o1_2 := hB2.off 1 2 (by decide) (by decide) (by decide) lo2_1_o1.1 (fun W h => (OwBlk.lt h r2_1).2.1) (fun _ _ _ h => ltb h.2)
 have oo2_1_o2_2 := hB2.off 1 2 (by decide) (by decide) (by decide) lo2_1_o2.1 (fun W h => (OwBlk.lt h r2_1).2.2) (fun _ _ _ h => ltb h.2)
 have k2_2 := kt hg2 2 (kt hg1 2 k2)
 have k2_4 := kt hg2 4 k1_4
 have k2_5 := kt hg2 5 (kt hg1 5 r1_1)
 have k2_18 := kt hg2 18 r2_1
 have k2_9 := kt hg2 9 r2_2
 obtain ⟨W3, hW3⟩ : ∃ W', W' = W2.setRow (s2 2) #[.int .i64 b.tab, .slice (some ⟨g1', 0, none⟩) (b.panels.length) c4', .int .i64 b.height, .slice (some ⟨g2', 0, none⟩) (b.top.length) c5', .slice (some ⟨g3', 0, none⟩) (b.bottom.length) c6', .int .i64 b.slot, .bool b.isOpen] := ⟨_, rfl⟩
 refine tsk (o := _) rfl ⟨rfl, rfl⟩ (run_seg hW3 (fr_ev k2_9) (fr_ev k2_18) br2_2 rfl rfl rfl rfl) ?_
 obtain ⟨fB3, nb3, ot3, z3⟩ := sgf hW3 fB2 br2_2 (by omega)
 clear hW3
 have b3_0 := ot3 _ _ (by omega) b2_0
 have b3_1 := ot3 _ _ (by omega) b2_1
 have q16' := q13'.other ot3 (by omega) z3
 have q17' := q14'.other ot3 (by omega) z3
 have q18' := q15'.other ot3 (by omega) z3
 refine wpe ?_
 refine hK2 _ _ ?_
 refine wp_seq_k fun K3 hK3 => ?_
 refine rw_ 13 [(19, 0), (20, 1), (21, 2), (22, 3), (23, 4), (24, 5), (25, 6), (26, 7), (27, 8), (28, 9), (29, 10), (30, 11), (31, 12)] [[], [], [], [0, 1, 2], [3], [4], [5], [5, 6], [5, 7], [8], [8, 9], [5, 8, 10], [5, 11]] (rel [is (.agg #[.int .i64 b.tab, .slice a1 (b.panels.length) c1, .int .i64 b.height, .slice a2 (b.top.length) c2, .slice a3 (b.bottom.length) c3, .int .i64 b.slot, .bool b.isOpen]), is (.agg #[.int .i64 vi.length.1, .int .i64 vi.length.2, .int .i64 vi.width.1, .int .i64 vi.width.2, .int .i64 vi.height.1, .int .i64 vi.height.2, .int .i64 vi.outer.1, .int .i64 vi.outer.2, .int .i64 vi.inner.1, .int .i64 vi.inner.2, .bool vi.isOpen]), iI cal, iB (holdsR b vi 5 cal), iB (!(holdsR b vi 5 cal)), iB (!(holdsR b vi 5 cal)), gd (!(holdsR b vi 5 cal)) true (is (.pointer (some ⟨(s1 0), 6, none⟩))), gd (!(holdsR b vi 5 cal)) true (iB b.isOpen), gd (!(holdsR b vi 5 cal)) true (iB b.isOpen), gd (!(holdsR b vi 5 cal)) true (gd (b.isOpen) false (is (.pointer (some ⟨(s1 1), 10, none⟩)))), gd (!(holdsR b vi 5 cal)) true (gd (b.isOpen) false (iB vi.isOpen)), gd (!(holdsR b vi 5 cal)) true (iB ((b.isOpen) || (vi.isOpen))), iB ((!(holdsR b vi 5 cal)) && ((b.isOpen) || (vi.isOpen)))])
  ⟨fun f s W l m q r u a => opv rfl rfl (by simp [go_sem, a.e 4 k2_4, cb b3_0 l 0, cb b3_0 l 1, cb b3_0 l 2, cb b3_0 l 3, cb b3_0 l 4, cb b3_0 l 5, cb b3_0 l 6]) rfl,
  fun f s W l m q r u a => opv rfl rfl (by simp [go_sem, a.e 5 k2_5, cb b3_1 l 0, cb b3_1 l 1, cb b3_1 l 2, cb b3_1 l 3, cb b3_1 l 4, cb b3_1 l 5, cb b3_1 l 6, cb b3_1 l 7, cb b3_1 l 8, cb b3_1 l 9, cb b3_1 l 10]) rfl,
  fun f s W l m q r u a => opm (a.v 2 k2_2),
  fun f s W l m q r u a => by have y := bwt fB3 l; exact opc (args := #[.agg #[.int .i64 b.tab, .slice a1 (b.panels.length) c1, .int .i64 b.height, .slice a2 (b.top.length) c2, .slice a3 (b.bottom.length) c3, .int .i64 b.slot, .bool b.isOpen], .agg #[.int .i64 vi.length.1, .int .i64 vi.length.2, .int .i64 vi.width.1, .int .i64 vi.width.2, .int .i64 vi.height.1, .int .i64 vi.height.2, .int .i64 vi.outer.1, .int .i64 vi.outer.2, .int .i64 vi.inner.1, .int .i64 vi.inner.2, .bool vi.isOpen], .int .i64 5, .int .i64 cal]) rfl rfl (by simp [go_sem, a.e 19 (m 0 rfl), a.e 20 (m 1 rfl), a.e 21 (m 2 rfl)]) (holdsR_blk (b := b) vi 5 5 cal W ⟨_, _, _, _, _, _, _, _, _, rfl, (h1.below y (Nat.le_refl _)), (h2.below y (Nat.le_refl _)), (h3.below y (Nat.le_refl _))⟩ hck hw gcl (by decide) rfl),
  fun f s W l m q r u a => opv rfl rfl (by simp [go_sem, a.e 22 (m 3 rfl)]) rfl,
  fun f s W l m q r u a => opm (a.v 23 (m 4 rfl)),
  fun f s W l m q r u a => gdo rfl rfl (a.says (d := 24) rfl rfl (m 5 rfl)) fun hgd0 => gv (by simp [go_sem, a.e 4 k2_4]) rfl,
  fun f s W l m q r u a => gdo rfl rfl (a.says (d := 24) rfl rfl (m 5 rfl)) fun hgd0 => gv (by simp [go_sem, a.e 25 ((m 6 rfl).1 hgd0), cb b3_0 l 6]) rfl,
  fun f s W l m q r u a => gdo rfl rfl (a.says (d := 24) rfl rfl (m 5 rfl)) fun hgd0 => gv (by simp [go_sem, a.e 26 ((m 7 rfl).1 hgd0)]) rfl,
  fun f s W l m q r u a => gdo2 rfl rfl a (d := 27) rfl rfl (m 8 rfl) fun hgd0 hgd1 => gv (by simp [go_sem, a.e 5 k2_5]) rfl,
  fun f s W l m q r u a => gdo2 rfl rfl a (d := 27) rfl rfl (m 8 rfl) fun hgd0 hgd1 => gv (by simp [go_sem, a.e 28 (((m 9 rfl).1 hgd0).1 hgd1), cb b3_1 l 10]) rfl,
  fun f s W l m q r u a => gdo rfl rfl (a.says (d := 24) rfl rfl (m 5 rfl)) fun hgd0 => gk (c := b.isOpen) (fun hpk => by simp [go_sem, hpk, a.e 27 ((m 8 rfl).1 hgd0), a.e 29 (((m 10 rfl).1 hgd0).1 hpk)]) (fun hpk => by simp [go_sem, hpk, a.e 27 ((m 8 rfl).1 hgd0)]),
  fun f s W l m q r u a => opk (c := !(holdsR b vi 5 cal)) rfl rfl (fun hpk => by simp [go_sem, hpk, a.e 24 (m 5 rfl)]) (fun hpk => by simp [go_sem, hpk, a.e 24 (m 5 rfl), a.e 30 ((m 11 rfl).1 hpk)]), trivial⟩ ?_
 intro f4 s4 W4 hB4 g4 hg4 z4
 have fB4 := hB4.f fB3
 have b4_0 := hB4.b b3_0
 have q19' := (q16'.below hB4.below)
 have q20' := (q17'.below hB4.below)
 have q21' := (q18'.below hB4.below)
 have k4_3 := kt hg4 3 (kt hg2 3 (kt hg1 3 k3))
 have k4_4 := kt hg4 4 k2_4
 have k4_9 := kt hg4 9 k2_9
 have k4_31 := kt hg4 31 (hB4.is 12)
 refine wp_cond_split (t := (!(holdsR b vi 5 cal)) && ((b.isOpen) || (vi.isOpen))) ((fr_eval rfl).trans k4_31) (fun hc5 => ?_) (fun hc5 => ?_)
 ·
  have hc5' := hc5; try simp only [ba] at hc5'
  refine rw_ 1 [(8, 0)] [[]] (rel [iB false])
   ⟨fun f s W l m q r u a => opz, trivial⟩ ?_
  intro f5 s5 W5 hB5 g5 hg5 z5
  have fB5 := hB5.f fB4
  have q22' := (q19'.below hB5.below)
  have q23' := (q20'.below hB5.below)
  have q24' := (q21'.below hB5.below)
  have k5_8 := kt hg5 8 (hB5.is 0)
  refine wp_ret ?_
  refine then_ret ?_
  refine leave_one (N := 140) (.inr rfl) Tryz.results32 rfl k5_8 ?_
  exact ⟨by rw [mayR_1 hc5], fB5⟩
 ·
  have hc5' := hc5; try simp only [ba] at hc5'
  have hbw : b.isOpen = false → vi.isOpen = false := fun e => hold5 e hc5
  refine wp_skip ?_
  refine hK3 _ _ ?_
  refine wp_seq_k fun K7 hK7 => ?_
  refine ry 6 [(32, 0), (33, 1), (34, 2), (35, 3), (36, 4), (37, 5)] [[], [0], [], [1, 2], [3], [], [0, 1, 2, 3, 4, 5]] (rel [is (.pointer (some ⟨(s1 0), 5, none⟩)), iI b.slot, iI off, iI (b.slot + off), iI (min 20 (b.slot + off)), is (.pointer (some ⟨(s2 2), 5, none⟩))])
   ⟨fun f s W l m q r u a => opv rfl rfl (by simp [go_sem, a.e 4 k4_4]) rfl,
  fun f s W l m q r u a => opv rfl rfl (by simp [go_sem, a.e 32 (m 0 rfl), cb b4_0 l 5]) rfl,
  fun f s W l m q r u a => opm (a.v 3 k4_3),
  fun f s W l m q r u a => opv rfl rfl (by simp [go_sem, a.e 33 (m 1 rfl), a.e 34 (m 2 rfl), IntWalk.i64_in (b.slot + off) (by omega)]) rfl,
  fun f s W l m q r u a => opv rfl rfl (by simp [go_sem, a.e 35 (m 3 rfl)]) rfl,
  fun f s W l m q r u a => opv rfl rfl (by simp [go_sem, a.e 9 k4_9]) rfl, trivial⟩ ?_
  intro f6 s6 W6 hB6 g6 hg6 z6
  have fB6 := hB6.f fB4
  have b6_0 := hB6.b b4_0
  have b6_1 := hB6.b (hB4.b b3_1)
  have b6_2 := hB6.b (hB4.b nb3)
  have q25' := (q19'.below hB6.below)
  have q26' := (q20'.below hB6.below)
  have q27' := (q21'.below hB6.below)
  have k6_2 := kt hg6 2 (kt hg4 2 k2_2)
  have k6_5 := kt hg6 5 (kt hg4 5 k2_5)
  have k6_9 := kt hg6 9 k4_9
  have k6_36 := kt hg6 36 (hB6.is 4)
  have k6_37 := kt hg6 37 (hB6.is 5)
  obtain ⟨W7, hW7⟩ : ∃ W', W' = W6.setRow (s2 2) #[.int .i64 b.tab, .slice (some ⟨g1', 0, none⟩) (b.panels.length) c4', .int .i64 b.height, .slice (some ⟨g2', 0, none⟩) (b.top.length) c5', .slice (some ⟨g3', 0, none⟩) (b.bottom.length) c6', .int .i64 (min 20 (b.slot + off)), .bool b.isOpen] := ⟨_, rfl⟩
  refine tsk (o := _) rfl ⟨rfl, rfl⟩ (run_seg hW7 (fr_ev k6_37) (fr_ev k6_36) b6_2 rfl rfl rfl rfl) ?_
  obtain ⟨fB7, nb7, ot7, z7⟩ := sgf hW7 fB6 b6_2 (by omega)
  clear hW7
  have b7_0 := ot7 _ _ (by omega) b6_0
  have b7_1 := ot7 _ _ (by omega) b6_1
  have q28' := q25'.other ot7 (by omega) z7
  have q29' := q26'.other ot7 (by omega) z7
  have q30' := q27'.other ot7 (by omega) z7
  refine wpe ?_
  refine hK7 _ _ ?_
  refine wp_seq_k fun K8 hK8 => ?_
  refine rw_ 5 [(38, 0), (39, 1), (40, 2), (41, 3), (42, 4)] [[], [], [], [0, 1, 2], [3]] (rel [is (.agg #[.int .i64 b.tab, .slice (some ⟨g1', 0, none⟩) (b.panels.length) c4', .int .i64 b.height, .slice (some ⟨g2', 0, none⟩) (b.top.length) c5', .slice (some ⟨g3', 0, none⟩) (b.bottom.length) c6', .int .i64 (min 20 (b.slot + off)), .bool b.isOpen]), is (.agg #[.int .i64 vi.length.1, .int .i64 vi.length.2, .int .i64 vi.width.1, .int .i64 vi.width.2, .int .i64 vi.height.1, .int .i64 vi.height.2, .int .i64 vi.outer.1, .int .i64 vi.outer.2, .int .i64 vi.inner.1, .int .i64 vi.inner.2, .bool vi.isOpen]), iI cal, iB (decide (cal ≤ 1000 * min 20 (b.slot + off))), iB (!(decide (cal ≤ 1000 * min 20 (b.slot + off))))])
   ⟨fun f s W l m q r u a => opv rfl rfl (by simp [go_sem, a.e 9 k6_9, cb nb7 l 0, cb nb7 l 1, cb nb7 l 2, cb nb7 l 3, cb nb7 l 4, cb nb7 l 5, cb nb7 l 6]) rfl,
  fun f s W l m q r u a => opv rfl rfl (by simp [go_sem, a.e 5 k6_5, cb b7_1 l 0, cb b7_1 l 1, cb b7_1 l 2, cb b7_1 l 3, cb b7_1 l 4, cb b7_1 l 5, cb b7_1 l 6, cb b7_1 l 7, cb b7_1 l 8, cb b7_1 l 9, cb b7_1 l 10]) rfl,
  fun f s W l m q r u a => opm (a.v 2 k6_2),
  fun f s W l m q r u a => opc (args := #[.agg #[.int .i64 b.tab, .slice (some ⟨g1', 0, none⟩) (b.panels.length) c4', .int .i64 b.height, .slice (some ⟨g2', 0, none⟩) (b.top.length) c5', .slice (some ⟨g3', 0, none⟩) (b.bottom.length) c6', .int .i64 (min 20 (b.slot + off)), .bool b.isOpen], .agg #[.int .i64 vi.length.1, .int .i64 vi.length.2, .int .i64 vi.width.1, .int .i64 vi.width.2, .int .i64 vi.height.1, .int .i64 vi.height.2, .int .i64 vi.outer.1, .int .i64 vi.outer.2, .int .i64 vi.inner.1, .int .i64 vi.inner.2, .bool vi.isOpen], .int .i64 9, .int .i64 cal]) rfl rfl (by simp [go_sem, a.e 38 (m 0 rfl), a.e 39 (m 1 rfl), a.e 40 (m 2 rfl)]) (holdsR_blk (b := mayX b (min 20 (b.slot + off)) (b.height) (b.panels)) vi 9 9 cal W ⟨_, _, _, _, _, _, _, _, _, rfl, (OwnI.iin (n := b.panels.length) ((q28'.below l)) rfl), (OwnI.iin (n := b.top.length) ((q29'.below l)) rfl), (OwnI.iin (n := b.bottom.length) ((q30'.below l)) rfl)⟩ (mayX_ok hck ⟨by omega, by omega⟩ ⟨by omega, by omega⟩ (psIn_b hck)) hw gcl (by decide) rfl),
  fun f s W l m q r u a => opv rfl rfl (by simp [go_sem, a.e 41 (m 3 rfl)]) rfl, trivial⟩ ?_
  intro f8 s8 W8 hB8 g8 hg8 z8
  have fB8 := hB8.f fB7
  have b8_0 := hB8.b b7_0
  have q31' := (q28'.below hB8.below)
  have q32' := (q29'.below hB8.below)
  have q33' := (q30'.below hB8.below)
  have k8_3 := kt hg8 3 (kt hg6 3 k4_3)
  have k8_4 := kt hg8 4 (kt hg6 4 k4_4)
  have k8_42 := kt hg8 42 (hB8.is 4)
  refine wp_cond_split (t := !(decide (cal ≤ 1000 * min 20 (b.slot + off)))) ((fr_eval rfl).trans k8_42) (fun hc10 => ?_) (fun hc10 => ?_)
  ·
   have hc10' := hc10; try simp only [ba] at hc10'
   refine rw_ 1 [(8, 0)] [[]] (rel [iB false])
    ⟨fun f s W l m q r u a => opz, trivial⟩ ?_
   intro f9 s9 W9 hB9 g9 hg9 z9
   have fB9 := hB9.f fB8
   have q34' := (q31'.below hB9.below)
   have q35' := (q32'.below hB9.below)
   have q36' := (q33'.below hB9.below)
   have k9_8 := kt hg9 8 (hB9.is 0)
   refine wp_ret ?_
   refine then_ret ?_
   refine leave_one (N := 140) (.inr rfl) Tryz.results32 rfl k9_8 ?_
   exact ⟨by rw [mayR_2 hc5 hc10], fB9⟩
  ·
   have hc10' := hc10; try simp only [ba] at hc10'
   refine wp_skip ?_
   refine hK8 _ _ ?_
   refine rx 6 [(43, 0), (44, 1), (45, 2), (46, 3), (10, 4), (11, 5)] [[], [0], [], [1, 2], [3], []] (rel [is (.pointer (some ⟨(s1 0), 2, none⟩)), iI b.height, iI off, fun v s W => OwI (s 3) (rangeL H1 H2) (rangeL H1 H2).length v W, fun v s W => OwI (s 3) (rangeL H1 H2) (rangeL H1 H2).length v W, iB false])
    ⟨is_k, is_k, is_k, ⟨fun v k W W' hb h => h.below hb, fun v s s' W e h => by have h' : OwI (s 3) (rangeL H1 H2) (rangeL H1 H2).length v W := h; show OwI (s' 3) (rangeL H1 H2) (rangeL H1 H2).length v W; rw [← e 3 (by simp)]; exact h'⟩, ⟨fun v k W W' hb h => h.below hb, fun v s s' W e h => by have h' : OwI (s 3) (rangeL H1 H2) (rangeL H1 H2).length v W := h; show OwI (s' 3) (rangeL H1 H2) (rangeL H1 H2).length v W; rw [← e 3 (by simp)]; exact h'⟩, is_k, trivial⟩
    ⟨fun f s W l m q r u a => opv rfl rfl (by simp [go_sem, a.e 4 k8_4]) rfl,
  fun f s W l m q r u a => opv rfl rfl (by simp [go_sem, a.e 43 (m 0 rfl), cb b8_0 l 2]) rfl,
  fun f s W l m q r u a => opm (a.v 3 k8_3),
  fun f s W l m q r u a => opd rfl rfl (by simp [go_sem, a.e 44 (m 1 rfl), a.e 45 (m 2 rfl)]) (ovP_ow hHH hneH (aroundR_ov (b.height) off 1 W (by omega) (by omega) (by omega) (by omega) (by decide) (by decide))) (fun e W' h => by obtain ⟨v, e1, h1, h2⟩ := h; exact ⟨v, e1, h2, (show OwI (upd s 3 W.heap.size 3) (rangeL H1 H2) (rangeL H1 H2).length v W' from by rw [upd_at]; exact h1)⟩),
  fun f s W l m q r u a => opv (v := (f 3)) rfl rfl (by simp [go_sem, (a.at' 46 rfl : u.tmps[46]?.getD undef = f 3)] <;> rfl) (m 3 rfl),
  fun f s W l m q r u a => opz, trivial⟩ ?_
   intro f10 s10 W10 hB10 g10 hg10 z10
   have q40' := (q31'.below hB10.below)
   have q41' := (q32'.below hB10.below)
   have q42' := (q33'.below hB10.below)
   obtain ⟨g43', c44', r10_4, q45'⟩ := hB10.is 4
   have la10_4 := hB10.from' 3 (by decide)
   have lo10_4_o := q45'.lim
   have q46' := q45'.low (B' := w.heap.size) (Nat.le_trans fB8.size (la10_4))
   refine wp_seq_k fun K13 hK13 => ?_
   refine rw_ 1 [(12, 0)] [[]] (rel [iI 0])
    ⟨fun f s W l m q r u a => opz, trivial⟩ ?_
   intro f11 s11 W11 hB11 g11 hg11 z11
   have fB11 := hB11.f (hB10.f fB8)
   have b11_0 := hB11.b (hB10.b b8_0)
   have b11_1 := hB11.b (hB10.b (hB8.b b7_1))
   have b11_2 := hB11.b (hB10.b (hB8.b nb7))
   have q47' := (q40'.below hB11.below)
   have q48' := (q41'.below hB11.below)
   have q49' := (q42'.below hB11.below)
   have q50' := (q46'.below hB11.below)
   have k11_2 := kt hg11 2 (kt hg10 2 (kt hg8 2 k6_2))
   have k11_3 := kt hg11 3 (kt hg10 3 k8_3)
   have k11_4 := kt hg11 4 (kt hg10 4 k8_4)
   have k11_5 := kt hg11 5 (kt hg10 5 (kt hg8 5 k6_5))
   have k11_8 := kt hg11 8 (kt hg10 8 (kt hg8 8 (kt hg6 8 (kt hg4 8 (kt hg2 8 (kt hg1 8 (hB1.is 2)))))))
   have k11_9 := kt hg11 9 (kt hg10 9 (kt hg8 9 k6_9))
   have k11_10 := kt hg11 10 (kt hg10 10 r10_4)
   have k11_11 := kt hg11 11 (kt hg10 11 (hB10.is 5))
   have k11_12 := kt hg11 12 (hB11.is 0)
   refine wp_block ?_
   refine wp_loop_n (fun m_ a_ W_ => ∃ g_ : Nat → Value, a_ = fr 140 g_ ∧ (∃ j : Nat, ∃ yh : Int, m_ = (rangeL H1 H2).length - j ∧ g_ 2 = .int .i64 cal ∧ g_ 3 = .int .i64 off ∧ g_ 4 = .pointer (some ⟨(s1 0), 0, none⟩) ∧ g_ 5 = .pointer (some ⟨(s1 1), 0, none⟩) ∧ g_ 8 = .bool false ∧ g_ 9 = .pointer (some ⟨(s2 2), 0, none⟩) ∧ g_ 10 = .slice (some ⟨g43', 0, none⟩) ((rangeL H1 H2).length) (c44') ∧ g_ 12 = .int .i64 ((j : Int)) ∧ g_ 11 = .bool (Ao j) ∧ Below w.heap.size w W_ ∧ W11.heap.size ≤ W_.heap.size ∧ W_.heap[(s1 0)]? = some (.cells #[.int .i64 b.tab, .slice a1 (b.panels.length) c1, .int .i64 b.height, .slice a2 (b.top.length) c2, .slice a3 (b.bottom.length) c3, .int .i64 b.slot, .bool b.isOpen] 24 (0, 0)) ∧ W_.heap[(s1 1)]? = some (.cells #[.int .i64 vi.length.1, .int .i64 vi.length.2, .int .i64 vi.width.1, .int .i64 vi.width.2, .int .i64 vi.height.1, .int .i64 vi.height.2, .int .i64 vi.outer.1, .int .i64 vi.outer.2, .int .i64 vi.inner.1, .int .i64 vi.inner.2, .bool vi.isOpen] 43 (0, 0)) ∧ W_.heap[(s2 2)]? = some (.cells #[.int .i64 b.tab, .slice (some ⟨g1', 0, none⟩) (b.panels.length) c4', .int .i64 yh, .slice (some ⟨g2', 0, none⟩) (b.top.length) c5', .slice (some ⟨g3', 0, none⟩) (b.bottom.length) c6', .int .i64 (min 20 (b.slot + off)), .bool b.isOpen] 24 (0, 0)) ∧ OwnI w.heap.size (b.panels) g1' c4' W_ ∧ OwnI w.heap.size (b.top) g2' c5' W_ ∧ OwnI w.heap.size (b.bottom) g3' c6' W_ ∧ OwnI w.heap.size (rangeL H1 H2) g43' c44' W_ ∧ (j ≤ (rangeL H1 H2).length) ∧ (1 ≤ yh ∧ yh ≤ 3000))) ⟨_, g11, rfl, 0, b.height, rfl, k11_2, k11_3, k11_4, k11_5, k11_8, k11_9, k11_10, k11_12.trans (by rfl), k11_11.trans (by rw [hA0]), fB11, Nat.le_refl _, b11_0, b11_1, b11_2, q47', q48', q49', q50', (by omega), (by omega)⟩ ?_
   rintro _ _ W_51 ⟨g_51, rfl, j, yh, rfl, k_51_2, k_51_3, k_51_4, k_51_5, k_51_8, k_51_9, k_51_10, k_51_12, k_51_11, fB_51, z_51, b_51_0, b_51_1, m_51_0, q52', q53', q54', q55', hp0, hp1⟩
   refine wp_seq_k fun K15 hK15 => ?_
   refine rw_ 4 [(47, 0), (48, 1), (49, 2), (50, 3)] [[], [], [1], [0, 2]] (rel [iI ((j : Int)), is (.slice (some ⟨g43', 0, none⟩) ((rangeL H1 H2).length) (c44')), iI (((rangeL H1 H2).length : Int)), iB (decide ((j : Int) < ((rangeL H1 H2).length : Int)))])
    ⟨fun f s W l m q r u a => opm (a.v 12 k_51_12),
  fun f s W l m q r u a => opm (a.v 10 k_51_10),
  fun f s W l m q r u a => opv rfl rfl (by simp [go_sem, a.e 48 (m 1 rfl)]) rfl,
  fun f s W l m q r u a => opv rfl rfl (by simp [go_sem, a.e 47 (m 0 rfl), a.e 49 (m 2 rfl)]) rfl, trivial⟩ ?_
   intro f12 s12 W12 hB12 g12 hg12 z12
   have fB12 := hB12.f fB_51
   have b12_0 := hB12.b b_51_0
   have b12_1 := hB12.b b_51_1
   have b12_2 := hB12.b m_51_0
   have q56' := (q52'.below hB12.below)
   have q57' := (q53'.below hB12.below)
   have q58' := (q54'.below hB12.below)
   have q59' := (q55'.below hB12.below)
   have k12_2 := kt hg12 2 k_51_2
   have k12_3 := kt hg12 3 k_51_3
   have k12_4 := kt hg12 4 k_51_4
   have k12_5 := kt hg12 5 k_51_5
   have k12_8 := kt hg12 8 k_51_8
   have k12_9 := kt hg12 9 k_51_9
   have k12_10 := kt hg12 10 k_51_10
   have k12_12 := kt hg12 12 k_51_12
   have k12_11 := kt hg12 11 k_51_11
   have k12_50 := kt hg12 50 (hB12.is 3)
   refine wp_cond_split (t := decide ((j : Int) < ((rangeL H1 H2).length : Int))) ((fr_eval rfl).trans k12_50) (fun hc17 => ?_) (fun hc17 => ?_)
   ·
    have hc17' := hc17; try simp only [ba] at hc17'
    have lih := Nat.not_le.2 (show j < (rangeL H1 H2).length by omega)
    have hxh : (rangeL H1 H2).length = (H2 + 1 - H1).toNat := rangeL_len _ _
    refine wp_skip ?_
    refine hK15 _ _ ?_
    refine wp_seq_k fun K18 hK18 => ?_
    refine wp_block ?_
    refine wp_seq_k fun K19 hK19 => ?_
    refine ry 5 [(53, 0), (54, 1), (55, 2), (56, 3), (57, 4)] [[], [], [0, 1], [2], [], [0, 1, 2, 3, 4]] (rel [is (.slice (some ⟨g43', 0, none⟩) ((rangeL H1 H2).length) (c44')), iI ((j : Int)), is (.pointer (some ⟨g43', j, none⟩)), iI ((H1 + (j : Int))), is (.pointer (some ⟨(s2 2), 2, none⟩))])
     ⟨fun f s W l m q r u a => opm (a.v 10 k12_10),
  fun f s W l m q r u a => opm (a.v 12 k12_12),
  fun f s W l m q r u a => opv rfl rfl (by simp [go_sem, a.e 53 (m 0 rfl), a.e 54 (m 1 rfl), lih]) rfl,
  fun f s W l m q r u a => by have u3_ : W.cell? ⟨g43', j, none⟩ = some (.int .i64 ((H1 + (j : Int)))) := ((OwnI.cell ((q59'.below l)) (i := j) (by omega)).trans (by rw [rangeL_get (by omega)])); exact opv rfl rfl (by simp [go_sem, a.e 55 (m 2 rfl), u3_]) rfl,
  fun f s W l m q r u a => opv rfl rfl (by simp [go_sem, a.e 9 k12_9]) rfl, trivial⟩ ?_
    intro f13 s13 W13 hB13 g13 hg13 z13
    have fB13 := hB13.f fB12
    have b13_0 := hB13.b b12_0
    have b13_1 := hB13.b b12_1
    have b13_2 := hB13.b b12_2
    have q60' := (q56'.below hB13.below)
    have q61' := (q57'.below hB13.below)
    have q62' := (q58'.below hB13.below)
    have q63' := (q59'.below hB13.below)
    have k13_2 := kt hg13 2 k12_2
    have k13_3 := kt hg13 3 k12_3
    have k13_4 := kt hg13 4 k12_4
    have k13_5 := kt hg13 5 k12_5
    have k13_8 := kt hg13 8 k12_8
    have k13_9 := kt hg13 9 k12_9
    have k13_10 := kt hg13 10 k12_10
    have k13_12 := kt hg13 12 k12_12
    have k13_11 := kt hg13 11 k12_11
    have k13_56 := kt hg13 56 (hB13.is 3)
    have k13_57 := kt hg13 57 (hB13.is 4)
    obtain ⟨W14, hW14⟩ : ∃ W', W' = W13.setRow (s2 2) #[.int .i64 b.tab, .slice (some ⟨g1', 0, none⟩) (b.panels.length) c4', .int .i64 ((H1 + (j : Int))), .slice (some ⟨g2', 0, none⟩) (b.top.length) c5', .slice (some ⟨g3', 0, none⟩) (b.bottom.length) c6', .int .i64 (min 20 (b.slot + off)), .bool b.isOpen] := ⟨_, rfl⟩
    refine tsk (o := _) rfl ⟨rfl, rfl⟩ (run_seg hW14 (fr_ev k13_57) (fr_ev k13_56) b13_2 rfl rfl rfl rfl) ?_
    obtain ⟨fB14, nb14, ot14, z14⟩ := sgf hW14 fB13 b13_2 (by omega)
    clear hW14
    have b14_0 := ot14 _ _ (by omega) b13_0
    have b14_1 := ot14 _ _ (by omega) b13_1
    have q64' := q60'.other ot14 (by omega) z14
    have q65' := q61'.other ot14 (by omega) z14
    have q66' := q62'.other ot14 (by omega) z14
    have q67' := q63'.other ot14 (by omega) z14
    refine wpe ?_
    refine hK19 _ _ ?_
    refine ry 8 [(58, 0), (59, 1), (60, 2), (61, 3), (62, 4), (63, 5), (64, 6), (11, 7)] [[], [0], [1], [1], [1], [1, 2, 3, 4], [1, 5], [0, 6]] (rel [iB (Ao j), iB (Ao j), gd (Ao j) false (is (.agg #[.int .i64 b.tab, .slice (some ⟨g1', 0, none⟩) (b.panels.length) c4', .int .i64 ((H1 + (j : Int))), .slice (some ⟨g2', 0, none⟩) (b.top.length) c5', .slice (some ⟨g3', 0, none⟩) (b.bottom.length) c6', .int .i64 (min 20 (b.slot + off)), .bool b.isOpen])), gd (Ao j) false (is (.agg #[.int .i64 vi.length.1, .int .i64 vi.length.2, .int .i64 vi.width.1, .int .i64 vi.width.2, .int .i64 vi.height.1, .int .i64 vi.height.2, .int .i64 vi.outer.1, .int .i64 vi.outer.2, .int .i64 vi.inner.1, .int .i64 vi.inner.2, .bool vi.isOpen])), gd (Ao j) false (iI cal), gd (Ao j) false (iB (highS b.isOpen vi (H1 + (j : Int)) cal)), iB ((Ao j) || (highS b.isOpen vi (H1 + (j : Int)) cal)), iB ((Ao j) || (highS b.isOpen vi (H1 + (j : Int)) cal))])
     ⟨fun f s W l m q r u a => opm (a.v 11 ((r 7 11 rfl rfl).trans k13_11)),
  fun f s W l m q r u a => opm (a.v 58 (m 0 rfl)),
  fun f s W l m q r u a => gdo rfl rfl (a.says (d := 59) rfl rfl (m 1 rfl)) fun hgd0 => gv (by simp [go_sem, a.e 9 k13_9, cb nb14 l 0, cb nb14 l 1, cb nb14 l 2, cb nb14 l 3, cb nb14 l 4, cb nb14 l 5, cb nb14 l 6]) rfl,
  fun f s W l m q r u a => gdo rfl rfl (a.says (d := 59) rfl rfl (m 1 rfl)) fun hgd0 => gv (by simp [go_sem, a.e 5 k13_5, cb b14_1 l 0, cb b14_1 l 1, cb b14_1 l 2, cb b14_1 l 3, cb b14_1 l 4, cb b14_1 l 5, cb b14_1 l 6, cb b14_1 l 7, cb b14_1 l 8, cb b14_1 l 9, cb b14_1 l 10]) rfl,
  fun f s W l m q r u a => gdo rfl rfl (a.says (d := 59) rfl rfl (m 1 rfl)) fun hgd0 => gv (by simp [go_sem, a.e 2 k13_2]) rfl,
  fun f s W l m q r u a => gdo rfl rfl (a.says (d := 59) rfl rfl (m 1 rfl)) fun hgd0 => gc (args := #[.agg #[.int .i64 b.tab, .slice (some ⟨g1', 0, none⟩) (b.panels.length) c4', .int .i64 ((H1 + (j : Int))), .slice (some ⟨g2', 0, none⟩) (b.top.length) c5', .slice (some ⟨g3', 0, none⟩) (b.bottom.length) c6', .int .i64 (min 20 (b.slot + off)), .bool b.isOpen], .agg #[.int .i64 vi.length.1, .int .i64 vi.length.2, .int .i64 vi.width.1, .int .i64 vi.width.2, .int .i64 vi.height.1, .int .i64 vi.height.2, .int .i64 vi.outer.1, .int .i64 vi.outer.2, .int .i64 vi.inner.1, .int .i64 vi.inner.2, .bool vi.isOpen], .int .i64 4, .int .i64 cal]) (by simp [go_sem, a.e 60 ((m 2 rfl).1 hgd0), a.e 61 ((m 3 rfl).1 hgd0), a.e 62 ((m 4 rfl).1 hgd0)]) (holdsR_blk (b := mayX b (min 20 (b.slot + off)) ((H1 + (j : Int))) (b.panels)) vi 4 4 cal W ⟨_, _, _, _, _, _, _, _, _, rfl, (OwnI.iin (n := b.panels.length) ((q64'.below l)) rfl), (OwnI.iin (n := b.top.length) ((q65'.below l)) rfl), (OwnI.iin (n := b.bottom.length) ((q66'.below l)) rfl)⟩ (mayX_ok hck ⟨by omega, by omega⟩ ⟨by omega, by omega⟩ (psIn_b hck)) hw gcl (by decide) rfl),
  fun f s W l m q r u a => opk (c := Ao j) rfl rfl (fun hpk => by simp [go_sem, hpk, a.e 59 (m 1 rfl), a.e 63 ((m 5 rfl).1 hpk)]) (fun hpk => by simp [go_sem, hpk, a.e 59 (m 1 rfl)]),
  fun f s W l m q r u a => opm (a.v 64 (m 6 rfl)), trivial⟩ ?_
    intro f15 s15 W15 hB15 g15 hg15 z15
    have fB15 := hB15.f fB14
    have b15_0 := hB15.b b14_0
    have b15_1 := hB15.b b14_1
    have b15_2 := hB15.b nb14
    have q68' := (q64'.below hB15.below)
    have q69' := (q65'.below hB15.below)
    have q70' := (q66'.below hB15.below)
    have q71' := (q67'.below hB15.below)
    refine wpe ?_
    have k15_2 := kt hg15 2 k13_2
    have k15_3 := kt hg15 3 k13_3
    have k15_4 := kt hg15 4 k13_4
    have k15_5 := kt hg15 5 k13_5
    have k15_8 := kt hg15 8 k13_8
    have k15_9 := kt hg15 9 k13_9
    have k15_10 := kt hg15 10 k13_10
    have k15_12 := kt hg15 12 k13_12
    have k15_11 := kt hg15 11 (hB15.is 7)
    refine ibn ?_
    refine hK18 _ _ ?_
    refine ry 3 [(51, 0), (52, 1), (12, 2)] [[], [0], [0, 1]] (rel [iI ((j : Int)), iI ((j : Int) + 1), iI ((j : Int) + 1)])
     ⟨fun f s W l m q r u a => opm (a.v 12 ((r 2 12 rfl rfl).trans k15_12)),
  fun f s W l m q r u a => opv rfl rfl (by simp [go_sem, a.e 51 (m 0 rfl), IntWalk.i64_in ((j : Int) + 1) (by omega)]) rfl,
  fun f s W l m q r u a => opm (a.v 52 (m 1 rfl)), trivial⟩ ?_
    intro f16 s16 W16 hB16 g16 hg16 z16
    have fB16 := hB16.f fB15
    have b16_0 := hB16.b b15_0
    have b16_1 := hB16.b b15_1
    have b16_2 := hB16.b b15_2
    have q72' := (q68'.below hB16.below)
    have q73' := (q69'.below hB16.below)
    have q74' := (q70'.below hB16.below)
    have q75' := (q71'.below hB16.below)
    refine wpe ?_
    have k16_2 := kt hg16 2 k15_2
    have k16_3 := kt hg16 3 k15_3
    have k16_4 := kt hg16 4 k15_4
    have k16_5 := kt hg16 5 k15_5
    have k16_8 := kt hg16 8 k15_8
    have k16_9 := kt hg16 9 k15_9
    have k16_10 := kt hg16 10 k15_10
    have k16_11 := kt hg16 11 k15_11
    have k16_12 := kt hg16 12 (hB16.is 2)
    refine then_normal ?_
    exact ⟨_, by omega, g16, rfl, j + 1, (H1 + (j : Int)), rfl, k16_2, k16_3, k16_4, k16_5, k16_8, k16_9, k16_10, k16_12.trans (by go_num), k16_11.trans (by rw [hAs]), fB16, (by omega), b16_0, b16_1, b16_2, q72', q73', q74', q75', (by omega), (by omega)⟩
   ·
    have hc17' := hc17; try simp only [ba] at hc17'
    refine wp_exit ?_
    refine then_exit ?_
    refine then_exit ?_
    refine inBlock_at ?_
    refine hK13 _ _ ?_
    refine wp_seq_k fun K20 hK20 => ?_
    refine rw_ 1 [(13, 0)] [[]] (rel [iI 0])
     ⟨fun f s W l m q r u a => opz, trivial⟩ ?_
    intro f17 s17 W17 hB17 g17 hg17 z17
    have fB17 := hB17.f fB12
    have b17_0 := hB17.b b12_0
    have b17_1 := hB17.b b12_1
    have b17_2 := hB17.b b12_2
    have q76' := (q56'.below hB17.below)
    have q77' := (q57'.below hB17.below)
    have q78' := (q58'.below hB17.below)
    have q79' := (q59'.below hB17.below)
    have k17_2 := kt hg17 2 k12_2
    have k17_3 := kt hg17 3 k12_3
    have k17_4 := kt hg17 4 k12_4
    have k17_5 := kt hg17 5 k12_5
    have k17_8 := kt hg17 8 k12_8
    have k17_9 := kt hg17 9 k12_9
    have k17_11 := kt hg17 11 k12_11
    have k17_13 := kt hg17 13 (hB17.is 0)
    refine wp_block ?_
    refine wp_loop_n (fun m_ a_ W_ => ∃ g_ : Nat → Value, a_ = fr 140 g_ ∧ (∃ i : Nat, ∃ ps : List Int, m_ = 4 - i ∧ g_ 2 = .int .i64 cal ∧ g_ 3 = .int .i64 off ∧ g_ 4 = .pointer (some ⟨(s1 0), 0, none⟩) ∧ g_ 5 = .pointer (some ⟨(s1 1), 0, none⟩) ∧ g_ 8 = .bool false ∧ g_ 9 = .pointer (some ⟨(s2 2), 0, none⟩) ∧ g_ 13 = .int .i64 ((i : Int)) ∧ g_ 11 = .bool (Eo i) ∧ Below w.heap.size w W_ ∧ W17.heap.size ≤ W_.heap.size ∧ W_.heap[(s1 0)]? = some (.cells #[.int .i64 b.tab, .slice a1 (b.panels.length) c1, .int .i64 b.height, .slice a2 (b.top.length) c2, .slice a3 (b.bottom.length) c3, .int .i64 b.slot, .bool b.isOpen] 24 (0, 0)) ∧ W_.heap[(s1 1)]? = some (.cells #[.int .i64 vi.length.1, .int .i64 vi.length.2, .int .i64 vi.width.1, .int .i64 vi.width.2, .int .i64 vi.height.1, .int .i64 vi.height.2, .int .i64 vi.outer.1, .int .i64 vi.outer.2, .int .i64 vi.inner.1, .int .i64 vi.inner.2, .bool vi.isOpen] 43 (0, 0)) ∧ W_.heap[(s2 2)]? = some (.cells #[.int .i64 b.tab, .slice (some ⟨g1', 0, none⟩) (b.panels.length) c4', .int .i64 yh, .slice (some ⟨g2', 0, none⟩) (b.top.length) c5', .slice (some ⟨g3', 0, none⟩) (b.bottom.length) c6', .int .i64 (min 20 (b.slot + off)), .bool b.isOpen] 24 (0, 0)) ∧ OwnI w.heap.size (b.top) g2' c5' W_ ∧ OwnI w.heap.size (b.bottom) g3' c6' W_ ∧ OwnI w.heap.size (rangeL H1 H2) g43' c44' W_ ∧ OwnI w.heap.size (ps) g1' c4' W_ ∧ (i ≤ 4) ∧ (∀ j, j < i → Eo j = true) ∧ (PsIn ps))) ⟨_, g17, rfl, 0, b.panels, rfl, k17_2, k17_3, k17_4, k17_5, k17_8, k17_9, k17_13.trans (by rfl), k17_11.trans (by rw [hE0, show j = (rangeL H1 H2).length by omega]), fB17, Nat.le_refl _, b17_0, b17_1, b17_2, q77', q78', q79', q76', (by omega), (fun j hj => absurd hj (Nat.not_lt_zero j)), (psIn_b hck)⟩ ?_
    rintro _ _ W_80 ⟨g_80, rfl, i, ps, rfl, k_80_2, k_80_3, k_80_4, k_80_5, k_80_8, k_80_9, k_80_13, k_80_11, fB_80, z_80, b_80_0, b_80_1, b_80_2, q81', q82', q83', q84', lp0, lp1, lp2⟩
    refine wp_seq_k fun K22 hK22 => ?_
    refine rw_ 5 [(65, 0), (66, 1), (67, 2), (68, 3), (69, 4)] [[], [0], [1], [2], [2, 3]] (rel [iI ((i : Int)), iB (decide ((i : Int) < 4)), iB (decide ((i : Int) < 4)), gd (decide ((i : Int) < 4)) true (iB (Eo i)), iB ((decide ((i : Int) < 4)) && (Eo i))])
     ⟨fun f s W l m q r u a => opm (a.v 13 k_80_13),
  fun f s W l m q r u a => opv rfl rfl (by simp [go_sem, a.e 65 (m 0 rfl)]) rfl,
  fun f s W l m q r u a => opm (a.v 66 (m 1 rfl)),
  fun f s W l m q r u a => gdo rfl rfl (a.says (d := 67) rfl rfl (m 2 rfl)) fun hgd0 => gv (by simp [go_sem, a.e 11 k_80_11]) rfl,
  fun f s W l m q r u a => opk (c := decide ((i : Int) < 4)) rfl rfl (fun hpk => by first | (simp [go_sem, hpk, a.e 67 (m 2 rfl)]; done) | (have hpk' := hpk; simp at hpk'; simp [go_sem, hpk', hpk, a.e 67 (m 2 rfl)])) (fun hpk => by first | (simp [go_sem, hpk, a.e 67 (m 2 rfl), a.e 68 ((m 3 rfl).1 hpk)]; done) | (have hpk' := hpk; simp at hpk'; simp [go_sem, hpk', hpk, a.e 67 (m 2 rfl), a.e 68 ((m 3 rfl).1 hpk)])), trivial⟩ ?_
    intro f18 s18 W18 hB18 g18 hg18 z18
    have fB18 := hB18.f fB_80
    have b18_0 := hB18.b b_80_0
    have b18_1 := hB18.b b_80_1
    have b18_2 := hB18.b b_80_2
    have q85' := (q81'.below hB18.below)
    have q86' := (q82'.below hB18.below)
    have q87' := (q83'.below hB18.below)
    have q88' := (q84'.below hB18.below)
    have k18_2 := kt hg18 2 k_80_2
    have k18_3 := kt hg18 3 k_80_3
    have k18_4 := kt hg18 4 k_80_4
    have k18_5 := kt hg18 5 k_80_5
    have k18_8 := kt hg18 8 k_80_8
    have k18_9 := kt hg18 9 k_80_9
    have k18_13 := kt hg18 13 k_80_13
    have k18_11 := kt hg18 11 k_80_11
    have k18_69 := kt hg18 69 (hB18.is 4)
    refine wp_cond_split (t := (decide ((i : Int) < 4)) && (Eo i)) ((fr_eval rfl).trans k18_69) (fun hc24 => ?_) (fun hc24 => ?_)
    ·
     have hc24' := hc24; try simp only [ba] at hc24'
     have hi4 : i < 4 := by have := hc24'.1; omega
     have hEi := hc24'.2
     have gpi := (psIn_b hck).2 i hi4
     have gli := gLU i hi4
     have hneP : 0 < (rangeL (Lo i) (Up i)).length := by rw [rangeL_len]; omega
     have lii := Nat.not_le.2 (show i < b.panels.length by omega)
     refine wp_skip ?_
     refine hK22 _ _ ?_
     refine wp_seq_k fun K25 hK25 => ?_
     refine wp_block ?_
     refine rx 8 [(72, 0), (73, 1), (74, 2), (75, 3), (76, 4), (77, 5), (78, 6), (14, 7)] [[], [0], [], [1, 2], [3], [], [4, 5], [6]] (rel [is (.pointer (some ⟨(s1 0), 1, none⟩)), is (.slice a1 (b.panels.length) c1), iI ((i : Int)), is (.pointer (some ⟨q1, o1 + i, none⟩)), iI (b.panels.getD i 0), iI off, fun v s W => OwI (s 6) (rangeL (Lo i) (Up i)) (rangeL (Lo i) (Up i)).length v W, fun v s W => OwI (s 6) (rangeL (Lo i) (Up i)) (rangeL (Lo i) (Up i)).length v W])
      ⟨is_k, is_k, is_k, is_k, is_k, is_k, ⟨fun v k W W' hb h => h.below hb, fun v s s' W e h => by have h' : OwI (s 6) (rangeL (Lo i) (Up i)) (rangeL (Lo i) (Up i)).length v W := h; show OwI (s' 6) (rangeL (Lo i) (Up i)) (rangeL (Lo i) (Up i)).length v W; rw [← e 6 (by simp)]; exact h'⟩, ⟨fun v k W W' hb h => h.below hb, fun v s s' W e h => by have h' : OwI (s 6) (rangeL (Lo i) (Up i)) (rangeL (Lo i) (Up i)).length v W := h; show OwI (s' 6) (rangeL (Lo i) (Up i)) (rangeL (Lo i) (Up i)).length v W; rw [← e 6 (by simp)]; exact h'⟩, trivial⟩
      ⟨fun f s W l m q r u a => opv rfl rfl (by simp [go_sem, a.e 4 k18_4]) rfl,
  fun f s W l m q r u a => opv rfl rfl (by simp [go_sem, a.e 72 (m 0 rfl), cb b18_0 l 1]) rfl,
  fun f s W l m q r u a => opm (a.v 13 k18_13),
  fun f s W l m q r u a => opv rfl rfl (by simp [go_sem, a.e 73 (m 1 rfl), a.e 74 (m 2 rfl), hq1, lii]) rfl,
  fun f s W l m q r u a => by have y := bwt fB18 l; have u_ : W.cell? ⟨q1, o1 + i, none⟩ = some (.int .i64 (b.panels.getD i 0)) := ((y.cell (p := ⟨q1, o1 + i, none⟩) hql1).trans (hqc1 i (by omega))); exact opv rfl rfl (by simp [go_sem, a.e 75 (m 3 rfl), u_]) rfl,
  fun f s W l m q r u a => opm (a.v 3 k18_3),
  fun f s W l m q r u a => opd rfl rfl (by simp [go_sem, a.e 76 (m 4 rfl), a.e 77 (m 5 rfl)]) (ovP_ow (hLU i hi4) hneP (aroundR_ov (b.panels.getD i 0) off 1 W (by omega) (by omega) (by omega) (by omega) (by decide) (by decide))) (fun e W' h => by obtain ⟨v, e1, h1, h2⟩ := h; exact ⟨v, e1, h2, (show OwI (upd s 6 W.heap.size 6) (rangeL (Lo i) (Up i)) (rangeL (Lo i) (Up i)).length v W' from by rw [upd_at]; exact h1)⟩),
  fun f s W l m q r u a => opv (v := (f 6)) rfl rfl (by simp [go_sem, (a.at' 78 rfl : u.tmps[78]?.getD undef = f 6)] <;> rfl) (m 6 rfl), trivial⟩ ?_
     intro f19 s19 W19 hB19 g19 hg19 z19
     have q92' := (q85'.below hB19.below)
     have q93' := (q86'.below hB19.below)
     have q94' := (q87'.below hB19.below)
     have q95' := (q88'.below hB19.below)
     obtain ⟨g96', c97', r19_7, q98'⟩ := hB19.is 7
     have la19_7 := hB19.from' 6 (by decide)
     have lo19_7_o := q98'.lim
     have q99' := q98'.low (B' := w.heap.size) (Nat.le_trans fB18.size (la19_7))
     refine rw_ 1 [(11, 0)] [[]] (rel [iB false])
      ⟨fun f s W l m q r u a => opz, trivial⟩ ?_
     intro f20 s20 W20 hB20 g20 hg20 z20
     have q100' := (q92'.below hB20.below)
     have q101' := (q93'.below hB20.below)
     have q102' := (q94'.below hB20.below)
     have q103' := (q95'.below hB20.below)
     have q104' := (q99'.below hB20.below)
     refine rw_ 1 [(15, 0)] [[]] (rel [iI 0])
      ⟨fun f s W l m q r u a => opz, trivial⟩ ?_
     intro f21 s21 W21 hB21 g21 hg21 z21
     have fB21 := hB21.f (hB20.f (hB19.f fB18))
     have b21_0 := hB21.b (hB20.b (hB19.b b18_0))
     have b21_1 := hB21.b (hB20.b (hB19.b b18_1))
     have b21_2 := hB21.b (hB20.b (hB19.b b18_2))
     have q105' := (q100'.below hB21.below)
     have q106' := (q101'.below hB21.below)
     have q107' := (q102'.below hB21.below)
     have q108' := (q103'.below hB21.below)
     have q109' := (q104'.below hB21.below)
     have k21_2 := kt hg21 2 (kt hg20 2 (kt hg19 2 k18_2))
     have k21_3 := kt hg21 3 (kt hg20 3 (kt hg19 3 k18_3))
     have k21_4 := kt hg21 4 (kt hg20 4 (kt hg19 4 k18_4))
     have k21_5 := kt hg21 5 (kt hg20 5 (kt hg19 5 k18_5))
     have k21_8 := kt hg21 8 (kt hg20 8 (kt hg19 8 k18_8))
     have k21_9 := kt hg21 9 (kt hg20 9 (kt hg19 9 k18_9))
     have k21_13 := kt hg21 13 (kt hg20 13 (kt hg19 13 k18_13))
     have k21_14 := kt hg21 14 (kt hg20 14 (kt hg19 14 r19_7))
     have k21_11 := kt hg21 11 (kt hg20 11 (hB20.is 0))
     have k21_15 := kt hg21 15 (hB21.is 0)
     refine wp_block ?_
     refine wp_loop_n (fun m_ a_ W_ => ∃ g_ : Nat → Value, a_ = fr 140 g_ ∧ (∃ k : Nat, ∃ z : Int, m_ = (rangeL (Lo i) (Up i)).length - k ∧ g_ 2 = .int .i64 cal ∧ g_ 3 = .int .i64 off ∧ g_ 4 = .pointer (some ⟨(s1 0), 0, none⟩) ∧ g_ 5 = .pointer (some ⟨(s1 1), 0, none⟩) ∧ g_ 8 = .bool false ∧ g_ 9 = .pointer (some ⟨(s2 2), 0, none⟩) ∧ g_ 13 = .int .i64 ((i : Int)) ∧ g_ 14 = .slice (some ⟨g96', 0, none⟩) ((rangeL (Lo i) (Up i)).length) (c97') ∧ g_ 15 = .int .i64 ((k : Int)) ∧ g_ 11 = .bool (Bo i k) ∧ Below w.heap.size w W_ ∧ W21.heap.size ≤ W_.heap.size ∧ W_.heap[(s1 0)]? = some (.cells #[.int .i64 b.tab, .slice a1 (b.panels.length) c1, .int .i64 b.height, .slice a2 (b.top.length) c2, .slice a3 (b.bottom.length) c3, .int .i64 b.slot, .bool b.isOpen] 24 (0, 0)) ∧ W_.heap[(s1 1)]? = some (.cells #[.int .i64 vi.length.1, .int .i64 vi.length.2, .int .i64 vi.width.1, .int .i64 vi.width.2, .int .i64 vi.height.1, .int .i64 vi.height.2, .int .i64 vi.outer.1, .int .i64 vi.outer.2, .int .i64 vi.inner.1, .int .i64 vi.inner.2, .bool vi.isOpen] 43 (0, 0)) ∧ W_.heap[(s2 2)]? = some (.cells #[.int .i64 b.tab, .slice (some ⟨g1', 0, none⟩) (b.panels.length) c4', .int .i64 yh, .slice (some ⟨g2', 0, none⟩) (b.top.length) c5', .slice (some ⟨g3', 0, none⟩) (b.bottom.length) c6', .int .i64 (min 20 (b.slot + off)), .bool b.isOpen] 24 (0, 0)) ∧ OwnI w.heap.size (b.top) g2' c5' W_ ∧ OwnI w.heap.size (b.bottom) g3' c6' W_ ∧ OwnI w.heap.size (rangeL H1 H2) g43' c44' W_ ∧ OwnI w.heap.size (rangeL (Lo i) (Up i)) g96' c97' W_ ∧ OwnI w.heap.size (ps.set i z) g1' c4' W_ ∧ (k ≤ (rangeL (Lo i) (Up i)).length) ∧ (PsIn (ps.set i z)))) ⟨_, g21, rfl, 0, (ps.getD i 0), rfl, k21_2, k21_3, k21_4, k21_5, k21_8, k21_9, k21_13, k21_14, k21_15.trans (by rfl), k21_11.trans (by rw [hB0]), fB21, Nat.le_refl _, b21_0, b21_1, b21_2, q105', q106', q107', q109', (by rw [set_self]; exact q108'), (by omega), (by rw [set_self]; exact lp2)⟩ ?_
     rintro _ _ W_110 ⟨g_110, rfl, k, z, rfl, k_110_2, k_110_3, k_110_4, k_110_5, k_110_8, k_110_9, k_110_13, k_110_14, k_110_15, k_110_11, fB_110, z_110, b_110_0, b_110_1, b_110_2, q111', q112', q113', q114', q115', mp0, mp1⟩
     refine wp_seq_k fun K29 hK29 => ?_
     refine rw_ 4 [(79, 0), (80, 1), (81, 2), (82, 3)] [[], [], [1], [0, 2]] (rel [iI ((k : Int)), is (.slice (some ⟨g96', 0, none⟩) ((rangeL (Lo i) (Up i)).length) (c97')), iI (((rangeL (Lo i) (Up i)).length : Int)), iB (decide ((k : Int) < ((rangeL (Lo i) (Up i)).length : Int)))])
      ⟨fun f s W l m q r u a => opm (a.v 15 k_110_15),
  fun f s W l m q r u a => opm (a.v 14 k_110_14),
  fun f s W l m q r u a => opv rfl rfl (by simp [go_sem, a.e 80 (m 1 rfl)]) rfl,
  fun f s W l m q r u a => opv rfl rfl (by simp [go_sem, a.e 79 (m 0 rfl), a.e 81 (m 2 rfl)]) rfl, trivial⟩ ?_
     intro f22 s22 W22 hB22 g22 hg22 z22
     have fB22 := hB22.f fB_110
     have b22_0 := hB22.b b_110_0
     have b22_1 := hB22.b b_110_1
     have b22_2 := hB22.b b_110_2
     have q116' := (q111'.below hB22.below)
     have q117' := (q112'.below hB22.below)
     have q118' := (q113'.below hB22.below)
     have q119' := (q114'.below hB22.below)
     have q120' := (q115'.below hB22.below)
     have k22_2 := kt hg22 2 k_110_2
     have k22_3 := kt hg22 3 k_110_3
     have k22_4 := kt hg22 4 k_110_4
     have k22_5 := kt hg22 5 k_110_5
     have k22_8 := kt hg22 8 k_110_8
     have k22_9 := kt hg22 9 k_110_9
     have k22_13 := kt hg22 13 k_110_13
     have k22_14 := kt hg22 14 k_110_14
     have k22_15 := kt hg22 15 k_110_15
     have k22_11 := kt hg22 11 k_110_11
     have k22_82 := kt hg22 82 (hB22.is 3)
     refine wp_cond_split (t := decide ((k : Int) < ((rangeL (Lo i) (Up i)).length : Int))) ((fr_eval rfl).trans k22_82) (fun hc31 => ?_) (fun hc31 => ?_)
     ·
      have hc31' := hc31; try simp only [ba] at hc31'
      have lip := Nat.not_le.2 (show k < (rangeL (Lo i) (Up i)).length by omega)
      have hxp : (rangeL (Lo i) (Up i)).length = (Up i + 1 - Lo i).toNat := rangeL_len _ _
      refine wp_skip ?_
      refine hK29 _ _ ?_
      refine wp_seq_k fun K32 hK32 => ?_
      refine wp_block ?_
      refine wp_seq_k fun K33 hK33 => ?_
      refine ry 8 [(85, 0), (86, 1), (87, 2), (88, 3), (89, 4), (90, 5), (91, 6), (92, 7)] [[], [0], [], [], [], [3, 4], [5], [1, 2], [0, 1, 2, 3, 4, 5, 6, 7]] (rel [is (.pointer (some ⟨(s2 2), 1, none⟩)), is (.slice (some ⟨g1', 0, none⟩) (b.panels.length) c4'), iI ((i : Int)), is (.slice (some ⟨g96', 0, none⟩) ((rangeL (Lo i) (Up i)).length) (c97')), iI ((k : Int)), is (.pointer (some ⟨g96', k, none⟩)), iI ((Lo i + (k : Int))), is (.pointer (some ⟨g1', i, none⟩))])
       ⟨fun f s W l m q r u a => opv rfl rfl (by simp [go_sem, a.e 9 k22_9]) rfl,
  fun f s W l m q r u a => opv rfl rfl (by simp [go_sem, a.e 85 (m 0 rfl), cb b22_2 l 1]) rfl,
  fun f s W l m q r u a => opm (a.v 13 k22_13),
  fun f s W l m q r u a => opm (a.v 14 k22_14),
  fun f s W l m q r u a => opm (a.v 15 k22_15),
  fun f s W l m q r u a => opv rfl rfl (by simp [go_sem, a.e 88 (m 3 rfl), a.e 89 (m 4 rfl), lip]) rfl,
  fun f s W l m q r u a => by have u6_ : W.cell? ⟨g96', k, none⟩ = some (.int .i64 ((Lo i + (k : Int)))) := ((OwnI.cell ((q119'.below l)) (i := k) (by omega)).trans (by rw [rangeL_get (by omega)])); exact opv rfl rfl (by simp [go_sem, a.e 90 (m 5 rfl), u6_]) rfl,
  fun f s W l m q r u a => opv rfl rfl (by simp [go_sem, a.e 86 (m 1 rfl), a.e 87 (m 2 rfl), lii]) rfl, trivial⟩ ?_
      intro f23 s23 W23 hB23 g23 hg23 z23
      have fB23 := hB23.f fB22
      have b23_0 := hB23.b b22_0
      have b23_1 := hB23.b b22_1
      have b23_2 := hB23.b b22_2
      have q121' := (q116'.below hB23.below)
      have q122' := (q117'.below hB23.below)
      have q123' := (q118'.below hB23.below)
      have q124' := (q119'.below hB23.below)
      have q125' := (q120'.below hB23.below)
      have k23_2 := kt hg23 2 k22_2
      have k23_3 := kt hg23 3 k22_3
      have k23_4 := kt hg23 4 k22_4
      have k23_5 := kt hg23 5 k22_5
      have k23_8 := kt hg23 8 k22_8
      have k23_9 := kt hg23 9 k22_9
      have k23_13 := kt hg23 13 k22_13
      have k23_14 := kt hg23 14 k22_14
      have k23_15 := kt hg23 15 k22_15
      have k23_11 := kt hg23 11 k22_11
      have k23_91 := kt hg23 91 (hB23.is 6)
      have k23_92 := kt hg23 92 (hB23.is 7)
      obtain ⟨W24, st24, ow24, ot24, z24, fB24⟩ := storeI_tail (c := c4') (i := i) (x := (Lo i + (k : Int))) (ps.set i ((Lo i + (k : Int)))) (by simp; have := lp2.1; omega) (List.set_set ..) fB23 q125'
      refine tsk (o := _) rfl ⟨rfl, rfl⟩ (st24 (fr_ev k23_92) (fr_ev k23_91)) ?_
      have b24_0 := ot24 _ _ (by omega) b23_0
      have b24_1 := ot24 _ _ (by omega) b23_1
      have b24_2 := ot24 _ _ (by omega) b23_2
      have q126' := q121'.other ot24 (by omega) z24
      have q127' := q122'.other ot24 (by omega) z24
      have q128' := q123'.other ot24 (by omega) z24
      have q129' := q124'.other ot24 (by omega) z24
      refine wpe ?_
      refine hK33 _ _ ?_
      refine rw_ 6 [(93, 0), (94, 1), (95, 2), (96, 3), (97, 4), (16, 5)] [[], [], [], [], [0, 1, 2, 3], [4]] (rel [is (.agg #[.int .i64 b.tab, .slice (some ⟨g1', 0, none⟩) (b.panels.length) c4', .int .i64 yh, .slice (some ⟨g2', 0, none⟩) (b.top.length) c5', .slice (some ⟨g3', 0, none⟩) (b.bottom.length) c6', .int .i64 (min 20 (b.slot + off)), .bool b.isOpen]), is (.agg #[.int .i64 vi.length.1, .int .i64 vi.length.2, .int .i64 vi.width.1, .int .i64 vi.width.2, .int .i64 vi.height.1, .int .i64 vi.height.2, .int .i64 vi.outer.1, .int .i64 vi.outer.2, .int .i64 vi.inner.1, .int .i64 vi.inner.2, .bool vi.isOpen]), iI ((i : Int)), iI cal, iB (panS vi i (Lo i + (k : Int)) cal), iB (panS vi i (Lo i + (k : Int)) cal)])
       ⟨fun f s W l m q r u a => opv rfl rfl (by simp [go_sem, a.e 9 k23_9, cb b24_2 l 0, cb b24_2 l 1, cb b24_2 l 2, cb b24_2 l 3, cb b24_2 l 4, cb b24_2 l 5, cb b24_2 l 6]) rfl,
  fun f s W l m q r u a => opv rfl rfl (by simp [go_sem, a.e 5 k23_5, cb b24_1 l 0, cb b24_1 l 1, cb b24_1 l 2, cb b24_1 l 3, cb b24_1 l 4, cb b24_1 l 5, cb b24_1 l 6, cb b24_1 l 7, cb b24_1 l 8, cb b24_1 l 9, cb b24_1 l 10]) rfl,
  fun f s W l m q r u a => opm (a.v 13 k23_13),
  fun f s W l m q r u a => opm (a.v 2 k23_2),
  fun f s W l m q r u a => opd (args := #[.agg #[.int .i64 b.tab, .slice (some ⟨g1', 0, none⟩) (b.panels.length) c4', .int .i64 yh, .slice (some ⟨g2', 0, none⟩) (b.top.length) c5', .slice (some ⟨g3', 0, none⟩) (b.bottom.length) c6', .int .i64 (min 20 (b.slot + off)), .bool b.isOpen], .agg #[.int .i64 vi.length.1, .int .i64 vi.length.2, .int .i64 vi.width.1, .int .i64 vi.width.2, .int .i64 vi.height.1, .int .i64 vi.height.2, .int .i64 vi.outer.1, .int .i64 vi.outer.2, .int .i64 vi.inner.1, .int .i64 vi.inner.2, .bool vi.isOpen], .int .i64 ((i : Int)), .int .i64 cal]) rfl rfl (by simp [go_sem, a.e 93 (m 0 rfl), a.e 94 (m 1 rfl), a.e 95 (m 2 rfl), a.e 96 (m 3 rfl)]) (holdsR_blk (b := mayX b (min 20 (b.slot + off)) (yh) (ps.set i ((Lo i + (k : Int))))) vi i (i : Int) cal W ⟨_, _, _, _, _, _, _, _, _, rfl, (OwnI.iin (n := b.panels.length) ((ow24.below l)) ((List.length_set ..).trans (lp2.1.trans hl1.symm))), (OwnI.iin (n := b.top.length) ((q126'.below l)) rfl), (OwnI.iin (n := b.bottom.length) ((q127'.below l)) rfl)⟩ (mayX_ok hck ⟨by omega, by omega⟩ ⟨by omega, by omega⟩ (psIn_set lp2 _ ⟨by omega, by omega⟩)) hw gcl (by omega) rfl) ((fun e W' h => by have h1 := h.1; rw [hold_pan _ vi hi4, show (mayX b (min 20 (b.slot + off)) (yh) (ps.set i ((Lo i + (k : Int))))).panels.getD i 0 = Lo i + (k : Int) from pan_set lp2 hi4] at h1; exact ⟨_, h1, h.2, rfl⟩)),
  fun f s W l m q r u a => opm (a.v 97 (m 4 rfl)), trivial⟩ ?_
      intro f25 s25 W25 hB25 g25 hg25 z25
      have fB25 := hB25.f fB24
      have b25_0 := hB25.b b24_0
      have b25_1 := hB25.b b24_1
      have b25_2 := hB25.b b24_2
      have q130' := (q126'.below hB25.below)
      have q131' := (q127'.below hB25.below)
      have q132' := (q128'.below hB25.below)
      have q133' := (q129'.below hB25.below)
      have q134' := (ow24.below hB25.below)
      have k25_2 := kt hg25 2 k23_2
      have k25_3 := kt hg25 3 k23_3
      have k25_4 := kt hg25 4 k23_4
      have k25_5 := kt hg25 5 k23_5
      have k25_8 := kt hg25 8 k23_8
      have k25_9 := kt hg25 9 k23_9
      have k25_13 := kt hg25 13 k23_13
      have k25_14 := kt hg25 14 k23_14
      have k25_15 := kt hg25 15 k23_15
      have k25_11 := kt hg25 11 k23_11
      have k25_16 := kt hg25 16 (hB25.is 5)
      refine wp_seq_k fun K35 hK35 => ?_
      refine rw_ 2 [(98, 0), (99, 1)] [[], [0]] (rel [iI ((i : Int)), iB (decide ((i : Int) < 2))])
       ⟨fun f s W l m q r u a => opm (a.v 13 k25_13),
  fun f s W l m q r u a => opv rfl rfl (by simp [go_sem, a.e 98 (m 0 rfl)]) rfl, trivial⟩ ?_
      intro f26 s26 W26 hB26 g26 hg26 z26
      have fB26 := hB26.f fB25
      have b26_0 := hB26.b b25_0
      have b26_1 := hB26.b b25_1
      have b26_2 := hB26.b b25_2
      have q135' := (q130'.below hB26.below)
      have q136' := (q131'.below hB26.below)
      have q137' := (q132'.below hB26.below)
      have q138' := (q133'.below hB26.below)
      have q139' := (q134'.below hB26.below)
      have k26_2 := kt hg26 2 k25_2
      have k26_3 := kt hg26 3 k25_3
      have k26_4 := kt hg26 4 k25_4
      have k26_5 := kt hg26 5 k25_5
      have k26_8 := kt hg26 8 k25_8
      have k26_9 := kt hg26 9 k25_9
      have k26_13 := kt hg26 13 k25_13
      have k26_14 := kt hg26 14 k25_14
      have k26_15 := kt hg26 15 k25_15
      have k26_11 := kt hg26 11 k25_11
      have k26_16 := kt hg26 16 k25_16
      have k26_99 := kt hg26 99 (hB26.is 1)
      refine wp_cond_split (t := decide ((i : Int) < 2)) ((fr_eval rfl).trans k26_99) (fun hc37 => ?_) (fun hc37 => ?_)
      ·
       have hc37' := hc37; try simp only [ba] at hc37'
       rcases (show i = 0 ∨ i = 1 by omega) with rfl | rfl
       ·
        refine ry 36 [(100, 0), (101, 1), (102, 2), (103, 3), (104, 4), (105, 5), (106, 6), (107, 7), (108, 8), (109, 9), (110, 10), (111, 11), (112, 12), (113, 13), (114, 14), (115, 15), (116, 16), (117, 17), (118, 18), (119, 19), (120, 20), (121, 21), (122, 22), (123, 23), (124, 24), (125, 25), (126, 26), (127, 27), (128, 28), (129, 29), (130, 30), (131, 31), (132, 32), (133, 33), (134, 34), (16, 35)] [[], [0], [1], [1], [1, 3], [1], [1, 5], [1, 4, 6], [1, 7], [1], [1], [1, 10], [1], [1], [1, 2, 8, 9, 11, 12, 13], [1, 14], [15], [16], [16, 17], [16, 18], [19], [19], [19, 21], [19], [19, 23], [19, 22, 24], [19, 25], [19], [19], [19, 28], [19], [19], [19, 20, 26, 27, 29, 30, 31], [16, 19, 32], [16, 33], [0, 34]] (rel [iB (panS vi 0 (Lo 0 + (k : Int)) cal), iB (panS vi 0 (Lo 0 + (k : Int)) cal), gd (panS vi 0 (Lo 0 + (k : Int)) cal) true (is (.agg #[.int .i64 b.tab, .slice (some ⟨g1', 0, none⟩) (b.panels.length) c4', .int .i64 yh, .slice (some ⟨g2', 0, none⟩) (b.top.length) c5', .slice (some ⟨g3', 0, none⟩) (b.bottom.length) c6', .int .i64 (min 20 (b.slot + off)), .bool b.isOpen])), gd (panS vi 0 (Lo 0 + (k : Int)) cal) true (is (.pointer (some ⟨(s1 0), 4, none⟩))), gd (panS vi 0 (Lo 0 + (k : Int)) cal) true (is (.slice a3 (b.bottom.length) c3)), gd (panS vi 0 (Lo 0 + (k : Int)) cal) true (iI 0), gd (panS vi 0 (Lo 0 + (k : Int)) cal) true (iI 1), gd (panS vi 0 (Lo 0 + (k : Int)) cal) true (is (.pointer (some ⟨q3, o3 + 1, none⟩))), gd (panS vi 0 (Lo 0 + (k : Int)) cal) true (iI ((fb 1))), gd (panS vi 0 (Lo 0 + (k : Int)) cal) true (iI off), gd (panS vi 0 (Lo 0 + (k : Int)) cal) true (iI 0), gd (panS vi 0 (Lo 0 + (k : Int)) cal) true (iI 1), gd (panS vi 0 (Lo 0 + (k : Int)) cal) true (is (.agg #[.int .i64 vi.length.1, .int .i64 vi.length.2, .int .i64 vi.width.1, .int .i64 vi.width.2, .int .i64 vi.height.1, .int .i64 vi.height.2, .int .i64 vi.outer.1, .int .i64 vi.outer.2, .int .i64 vi.inner.1, .int .i64 vi.inner.2, .bool vi.isOpen])), gd (panS vi 0 (Lo 0 + (k : Int)) cal) true (iI cal), gd (panS vi 0 (Lo 0 + (k : Int)) cal) true (iB (gapS vi 1 (Lo 0 + (k : Int)) (fb 1) off cal)), iB ((panS vi 0 (Lo 0 + (k : Int)) cal) && (gapS vi 1 (Lo 0 + (k : Int)) (fb 1) off cal)), iB ((panS vi 0 (Lo 0 + (k : Int)) cal) && (gapS vi 1 (Lo 0 + (k : Int)) (fb 1) off cal)), gd ((panS vi 0 (Lo 0 + (k : Int)) cal) && (gapS vi 1 (Lo 0 + (k : Int)) (fb 1) off cal)) true (is (.pointer (some ⟨(s1 0), 6, none⟩))), gd ((panS vi 0 (Lo 0 + (k : Int)) cal) && (gapS vi 1 (Lo 0 + (k : Int)) (fb 1) off cal)) true (iB b.isOpen), gd ((panS vi 0 (Lo 0 + (k : Int)) cal) && (gapS vi 1 (Lo 0 + (k : Int)) (fb 1) off cal)) true (iB b.isOpen), gd ((panS vi 0 (Lo 0 + (k : Int)) cal) && (gapS vi 1 (Lo 0 + (k : Int)) (fb 1) off cal)) true (gd (b.isOpen) false (is (.agg #[.int .i64 b.tab, .slice (some ⟨g1', 0, none⟩) (b.panels.length) c4', .int .i64 yh, .slice (some ⟨g2', 0, none⟩) (b.top.length) c5', .slice (some ⟨g3', 0, none⟩) (b.bottom.length) c6', .int .i64 (min 20 (b.slot + off)), .bool b.isOpen]))), gd ((panS vi 0 (Lo 0 + (k : Int)) cal) && (gapS vi 1 (Lo 0 + (k : Int)) (fb 1) off cal)) true (gd (b.isOpen) false (is (.pointer (some ⟨(s1 0), 3, none⟩)))), gd ((panS vi 0 (Lo 0 + (k : Int)) cal) && (gapS vi 1 (Lo 0 + (k : Int)) (fb 1) off cal)) true (gd (b.isOpen) false (is (.slice a2 (b.top.length) c2))), gd ((panS vi 0 (Lo 0 + (k : Int)) cal) && (gapS vi 1 (Lo 0 + (k : Int)) (fb 1) off cal)) true (gd (b.isOpen) false (iI 0)), gd ((panS vi 0 (Lo 0 + (k : Int)) cal) && (gapS vi 1 (Lo 0 + (k : Int)) (fb 1) off cal)) true (gd (b.isOpen) false (iI 1)), gd ((panS vi 0 (Lo 0 + (k : Int)) cal) && (gapS vi 1 (Lo 0 + (k : Int)) (fb 1) off cal)) true (gd (b.isOpen) false (is (.pointer (some ⟨q2, o2 + 1, none⟩)))), gd ((panS vi 0 (Lo 0 + (k : Int)) cal) && (gapS vi 1 (Lo 0 + (k : Int)) (fb 1) off cal)) true (gd (b.isOpen) false (iI ((ft 1)))), gd ((panS vi 0 (Lo 0 + (k : Int)) cal) && (gapS vi 1 (Lo 0 + (k : Int)) (fb 1) off cal)) true (gd (b.isOpen) false (iI off)), gd ((panS vi 0 (Lo 0 + (k : Int)) cal) && (gapS vi 1 (Lo 0 + (k : Int)) (fb 1) off cal)) true (gd (b.isOpen) false (iI 0)), gd ((panS vi 0 (Lo 0 + (k : Int)) cal) && (gapS vi 1 (Lo 0 + (k : Int)) (fb 1) off cal)) true (gd (b.isOpen) false (iI 1)), gd ((panS vi 0 (Lo 0 + (k : Int)) cal) && (gapS vi 1 (Lo 0 + (k : Int)) (fb 1) off cal)) true (gd (b.isOpen) false (is (.agg #[.int .i64 vi.length.1, .int .i64 vi.length.2, .int .i64 vi.width.1, .int .i64 vi.width.2, .int .i64 vi.height.1, .int .i64 vi.height.2, .int .i64 vi.outer.1, .int .i64 vi.outer.2, .int .i64 vi.inner.1, .int .i64 vi.inner.2, .bool vi.isOpen]))), gd ((panS vi 0 (Lo 0 + (k : Int)) cal) && (gapS vi 1 (Lo 0 + (k : Int)) (fb 1) off cal)) true (gd (b.isOpen) false (iI cal)), gd ((panS vi 0 (Lo 0 + (k : Int)) cal) && (gapS vi 1 (Lo 0 + (k : Int)) (fb 1) off cal)) true (gd (b.isOpen) false (iB (gapS vi 1 (Lo 0 + (k : Int)) (ft 1) off cal))), gd ((panS vi 0 (Lo 0 + (k : Int)) cal) && (gapS vi 1 (Lo 0 + (k : Int)) (fb 1) off cal)) true (iB ((b.isOpen) || (gapS vi 1 (Lo 0 + (k : Int)) (ft 1) off cal))), iB (((panS vi 0 (Lo 0 + (k : Int)) cal) && (gapS vi 1 (Lo 0 + (k : Int)) (fb 1) off cal)) && ((b.isOpen) || (gapS vi 1 (Lo 0 + (k : Int)) (ft 1) off cal))), iB (((panS vi 0 (Lo 0 + (k : Int)) cal) && (gapS vi 1 (Lo 0 + (k : Int)) (fb 1) off cal)) && ((b.isOpen) || (gapS vi 1 (Lo 0 + (k : Int)) (ft 1) off cal)))])
         ⟨fun f s W l m q r u a => opm (a.v 16 ((r 35 16 rfl rfl).trans k26_16)),
  fun f s W l m q r u a => opm (a.v 100 (m 0 rfl)),
  fun f s W l m q r u a => gdo rfl rfl (a.says (d := 101) rfl rfl (m 1 rfl)) fun hgd0 => gv (by simp [go_sem, a.e 9 k26_9, cb b26_2 l 0, cb b26_2 l 1, cb b26_2 l 2, cb b26_2 l 3, cb b26_2 l 4, cb b26_2 l 5, cb b26_2 l 6]) rfl,
  fun f s W l m q r u a => gdo rfl rfl (a.says (d := 101) rfl rfl (m 1 rfl)) fun hgd0 => gv (by simp [go_sem, a.e 4 k26_4]) rfl,
  fun f s W l m q r u a => gdo rfl rfl (a.says (d := 101) rfl rfl (m 1 rfl)) fun hgd0 => gv (by simp [go_sem, a.e 103 ((m 3 rfl).1 hgd0), cb b26_0 l 4]) rfl,
  fun f s W l m q r u a => gdo rfl rfl (a.says (d := 101) rfl rfl (m 1 rfl)) fun hgd0 => gv (by simp [go_sem, a.e 13 k26_13]) rfl,
  fun f s W l m q r u a => gdo rfl rfl (a.says (d := 101) rfl rfl (m 1 rfl)) fun hgd0 => gv (by simp [go_sem, a.e 105 ((m 5 rfl).1 hgd0), IntWalk.i64_in (1) (by omega)]) rfl,
  fun f s W l m q r u a => gdo rfl rfl (a.says (d := 101) rfl rfl (m 1 rfl)) fun hgd0 => gv (by simp [go_sem, a.e 104 ((m 4 rfl).1 hgd0), a.e 106 ((m 6 rfl).1 hgd0), hq3, hl3]) rfl,
  fun f s W l m q r u a => gdo rfl rfl (a.says (d := 101) rfl rfl (m 1 rfl)) fun hgd0 => by have y := bwt fB26 l; have u_ : W.cell? ⟨q3, o3 + 1, none⟩ = some (.int .i64 ((fb 1))) := ((y.cell (p := ⟨q3, o3 + 1, none⟩) hql3).trans (hqc3 1 (by omega))).trans (by rw [hfb]); exact gv (by simp [go_sem, a.e 107 ((m 7 rfl).1 hgd0), u_]) rfl,
  fun f s W l m q r u a => gdo rfl rfl (a.says (d := 101) rfl rfl (m 1 rfl)) fun hgd0 => gv (by simp [go_sem, a.e 3 k26_3]) rfl,
  fun f s W l m q r u a => gdo rfl rfl (a.says (d := 101) rfl rfl (m 1 rfl)) fun hgd0 => gv (by simp [go_sem, a.e 13 k26_13]) rfl,
  fun f s W l m q r u a => gdo rfl rfl (a.says (d := 101) rfl rfl (m 1 rfl)) fun hgd0 => gv (by simp [go_sem, a.e 110 ((m 10 rfl).1 hgd0), IntWalk.i64_in (1) (by omega)]) rfl,
  fun f s W l m q r u a => gdo rfl rfl (a.says (d := 101) rfl rfl (m 1 rfl)) fun hgd0 => gv (by simp [go_sem, a.e 5 k26_5, cb b26_1 l 0, cb b26_1 l 1, cb b26_1 l 2, cb b26_1 l 3, cb b26_1 l 4, cb b26_1 l 5, cb b26_1 l 6, cb b26_1 l 7, cb b26_1 l 8, cb b26_1 l 9, cb b26_1 l 10]) rfl,
  fun f s W l m q r u a => gdo rfl rfl (a.says (d := 101) rfl rfl (m 1 rfl)) fun hgd0 => gv (by simp [go_sem, a.e 2 k26_2]) rfl,
  fun f s W l m q r u a => gdo rfl rfl (a.says (d := 101) rfl rfl (m 1 rfl)) fun hgd0 => gc (args := #[.agg #[.int .i64 b.tab, .slice (some ⟨g1', 0, none⟩) (b.panels.length) c4', .int .i64 yh, .slice (some ⟨g2', 0, none⟩) (b.top.length) c5', .slice (some ⟨g3', 0, none⟩) (b.bottom.length) c6', .int .i64 (min 20 (b.slot + off)), .bool b.isOpen], .int .i64 ((fb 1)), .int .i64 off, .int .i64 1, .bool false, .agg #[.int .i64 vi.length.1, .int .i64 vi.length.2, .int .i64 vi.width.1, .int .i64 vi.width.2, .int .i64 vi.height.1, .int .i64 vi.height.2, .int .i64 vi.outer.1, .int .i64 vi.outer.2, .int .i64 vi.inner.1, .int .i64 vi.inner.2, .bool vi.isOpen], .int .i64 cal]) (by simp [go_sem, a.e 102 ((m 2 rfl).1 hgd0), a.e 108 ((m 8 rfl).1 hgd0), a.e 109 ((m 9 rfl).1 hgd0), a.e 111 ((m 11 rfl).1 hgd0), a.e 112 ((m 12 rfl).1 hgd0), a.e 113 ((m 13 rfl).1 hgd0)]) (someR_bb (b := mayX b (min 20 (b.slot + off)) (yh) (ps.set 0 ((Lo 0 + (k : Int))))) vi 1 1 (Lo 0 + (k : Int)) ((fb 1)) off cal (max 0 ((fb 1) - off)) (min 3000 ((fb 1) + off)) W ⟨_, _, _, _, _, _, _, _, _, rfl, (OwnI.iin (n := b.panels.length) ((q139'.below l)) ((List.length_set ..).trans (lp2.1.trans hl1.symm))), (OwnI.iin (n := b.top.length) ((q135'.below l)) rfl), (OwnI.iin (n := b.bottom.length) ((q136'.below l)) rfl)⟩ (mayX_ok hck ⟨by omega, by omega⟩ ⟨by omega, by omega⟩ (psIn_set lp2 _ ⟨by omega, by omega⟩)) hw (by decide) (by omega) hof gcl rfl (by omega) (by omega) (by omega) (show (mayX b (min 20 (b.slot + off)) (yh) (ps.set 0 ((Lo 0 + (k : Int))))).panels.getD (1 - 1) 0 = (Lo 0 + (k : Int)) from pan_set (i := 0) lp2 (by decide)) rfl),
  fun f s W l m q r u a => opk (c := panS vi 0 (Lo 0 + (k : Int)) cal) rfl rfl (fun hpk => by simp [go_sem, hpk, a.e 101 (m 1 rfl)]) (fun hpk => by simp [go_sem, hpk, a.e 101 (m 1 rfl), a.e 114 ((m 14 rfl).1 hpk)]),
  fun f s W l m q r u a => opm (a.v 115 (m 15 rfl)),
  fun f s W l m q r u a => gdo rfl rfl (a.says (d := 116) rfl rfl (m 16 rfl)) fun hgd0 => gv (by simp [go_sem, a.e 4 k26_4]) rfl,
  fun f s W l m q r u a => gdo rfl rfl (a.says (d := 116) rfl rfl (m 16 rfl)) fun hgd0 => gv (by simp [go_sem, a.e 117 ((m 17 rfl).1 hgd0), cb b26_0 l 6]) rfl,
  fun f s W l m q r u a => gdo rfl rfl (a.says (d := 116) rfl rfl (m 16 rfl)) fun hgd0 => gv (by simp [go_sem, a.e 118 ((m 18 rfl).1 hgd0)]) rfl,
  fun f s W l m q r u a => gdo2 rfl rfl a (d := 119) rfl rfl (m 19 rfl) fun hgd0 hgd1 => gv (by simp [go_sem, a.e 9 k26_9, cb b26_2 l 0, cb b26_2 l 1, cb b26_2 l 2, cb b26_2 l 3, cb b26_2 l 4, cb b26_2 l 5, cb b26_2 l 6]) rfl,
  fun f s W l m q r u a => gdo2 rfl rfl a (d := 119) rfl rfl (m 19 rfl) fun hgd0 hgd1 => gv (by simp [go_sem, a.e 4 k26_4]) rfl,
  fun f s W l m q r u a => gdo2 rfl rfl a (d := 119) rfl rfl (m 19 rfl) fun hgd0 hgd1 => gv (by simp [go_sem, a.e 121 (((m 21 rfl).1 hgd0).1 hgd1), cb b26_0 l 3]) rfl,
  fun f s W l m q r u a => gdo2 rfl rfl a (d := 119) rfl rfl (m 19 rfl) fun hgd0 hgd1 => gv (by simp [go_sem, a.e 13 k26_13]) rfl,
  fun f s W l m q r u a => gdo2 rfl rfl a (d := 119) rfl rfl (m 19 rfl) fun hgd0 hgd1 => gv (by simp [go_sem, a.e 123 (((m 23 rfl).1 hgd0).1 hgd1), IntWalk.i64_in (1) (by omega)]) rfl,
  fun f s W l m q r u a => gdo2 rfl rfl a (d := 119) rfl rfl (m 19 rfl) fun hgd0 hgd1 => gv (by simp [go_sem, a.e 122 (((m 22 rfl).1 hgd0).1 hgd1), a.e 124 (((m 24 rfl).1 hgd0).1 hgd1), hq2, hl2]) rfl,
  fun f s W l m q r u a => gdo2 rfl rfl a (d := 119) rfl rfl (m 19 rfl) fun hgd0 hgd1 => by have y := bwt fB26 l; have u_ : W.cell? ⟨q2, o2 + 1, none⟩ = some (.int .i64 ((ft 1))) := ((y.cell (p := ⟨q2, o2 + 1, none⟩) hql2).trans (hqc2 1 (by omega))).trans (by rw [hft]); exact gv (by simp [go_sem, a.e 125 (((m 25 rfl).1 hgd0).1 hgd1), u_]) rfl,
  fun f s W l m q r u a => gdo2 rfl rfl a (d := 119) rfl rfl (m 19 rfl) fun hgd0 hgd1 => gv (by simp [go_sem, a.e 3 k26_3]) rfl,
  fun f s W l m q r u a => gdo2 rfl rfl a (d := 119) rfl rfl (m 19 rfl) fun hgd0 hgd1 => gv (by simp [go_sem, a.e 13 k26_13]) rfl,
  fun f s W l m q r u a => gdo2 rfl rfl a (d := 119) rfl rfl (m 19 rfl) fun hgd0 hgd1 => gv (by simp [go_sem, a.e 128 (((m 28 rfl).1 hgd0).1 hgd1), IntWalk.i64_in (1) (by omega)]) rfl,
  fun f s W l m q r u a => gdo2 rfl rfl a (d := 119) rfl rfl (m 19 rfl) fun hgd0 hgd1 => gv (by simp [go_sem, a.e 5 k26_5, cb b26_1 l 0, cb b26_1 l 1, cb b26_1 l 2, cb b26_1 l 3, cb b26_1 l 4, cb b26_1 l 5, cb b26_1 l 6, cb b26_1 l 7, cb b26_1 l 8, cb b26_1 l 9, cb b26_1 l 10]) rfl,
  fun f s W l m q r u a => gdo2 rfl rfl a (d := 119) rfl rfl (m 19 rfl) fun hgd0 hgd1 => gv (by simp [go_sem, a.e 2 k26_2]) rfl,
  fun f s W l m q r u a => gdo2 rfl rfl a (d := 119) rfl rfl (m 19 rfl) fun hgd0 hgd1 => gc (args := #[.agg #[.int .i64 b.tab, .slice (some ⟨g1', 0, none⟩) (b.panels.length) c4', .int .i64 yh, .slice (some ⟨g2', 0, none⟩) (b.top.length) c5', .slice (some ⟨g3', 0, none⟩) (b.bottom.length) c6', .int .i64 (min 20 (b.slot + off)), .bool b.isOpen], .int .i64 ((ft 1)), .int .i64 off, .int .i64 1, .bool true, .agg #[.int .i64 vi.length.1, .int .i64 vi.length.2, .int .i64 vi.width.1, .int .i64 vi.width.2, .int .i64 vi.height.1, .int .i64 vi.height.2, .int .i64 vi.outer.1, .int .i64 vi.outer.2, .int .i64 vi.inner.1, .int .i64 vi.inner.2, .bool vi.isOpen], .int .i64 cal]) (by simp [go_sem, a.e 120 (((m 20 rfl).1 hgd0).1 hgd1), a.e 126 (((m 26 rfl).1 hgd0).1 hgd1), a.e 127 (((m 27 rfl).1 hgd0).1 hgd1), a.e 129 (((m 29 rfl).1 hgd0).1 hgd1), a.e 130 (((m 30 rfl).1 hgd0).1 hgd1), a.e 131 (((m 31 rfl).1 hgd0).1 hgd1)]) (someR_tt (b := mayX b (min 20 (b.slot + off)) (yh) (ps.set 0 ((Lo 0 + (k : Int))))) vi 1 1 (Lo 0 + (k : Int)) ((ft 1)) off cal (max 0 ((ft 1) - off)) (min 3000 ((ft 1) + off)) W ⟨_, _, _, _, _, _, _, _, _, rfl, (OwnI.iin (n := b.panels.length) ((q139'.below l)) ((List.length_set ..).trans (lp2.1.trans hl1.symm))), (OwnI.iin (n := b.top.length) ((q135'.below l)) rfl), (OwnI.iin (n := b.bottom.length) ((q136'.below l)) rfl)⟩ (mayX_ok hck ⟨by omega, by omega⟩ ⟨by omega, by omega⟩ (psIn_set lp2 _ ⟨by omega, by omega⟩)) hw (by decide) (by omega) hof gcl rfl (by omega) (by omega) (by omega) (show (mayX b (min 20 (b.slot + off)) (yh) (ps.set 0 ((Lo 0 + (k : Int))))).panels.getD (1 - 1) 0 = (Lo 0 + (k : Int)) from pan_set (i := 0) lp2 (by decide)) rfl (by first | assumption | exact hgd1) (hbw (by first | assumption | exact hgd1))),
  fun f s W l m q r u a => gdo rfl rfl (a.says (d := 116) rfl rfl (m 16 rfl)) fun hgd0 => gk (c := b.isOpen) (fun hpk => by simp [go_sem, hpk, a.e 119 ((m 19 rfl).1 hgd0), a.e 132 (((m 32 rfl).1 hgd0).1 hpk)]) (fun hpk => by simp [go_sem, hpk, a.e 119 ((m 19 rfl).1 hgd0)]),
  fun f s W l m q r u a => opk (c := (panS vi 0 (Lo 0 + (k : Int)) cal) && (gapS vi 1 (Lo 0 + (k : Int)) (fb 1) off cal)) rfl rfl (fun hpk => by simp [go_sem, hpk, a.e 116 (m 16 rfl)]) (fun hpk => by simp [go_sem, hpk, a.e 116 (m 16 rfl), a.e 133 ((m 33 rfl).1 hpk)]),
  fun f s W l m q r u a => opm (a.v 134 (m 34 rfl)), trivial⟩ ?_
        intro f27 s27 W27 hB27 g27 hg27 z27
        have fB27 := hB27.f fB26
        have b27_0 := hB27.b b26_0
        have b27_1 := hB27.b b26_1
        have b27_2 := hB27.b b26_2
        have q140' := (q135'.below hB27.below)
        have q141' := (q136'.below hB27.below)
        have q142' := (q137'.below hB27.below)
        have q143' := (q138'.below hB27.below)
        have q144' := (q139'.below hB27.below)
        refine hK35 _ _ ?_
        have k27_2 := kt hg27 2 k26_2
        have k27_3 := kt hg27 3 k26_3
        have k27_4 := kt hg27 4 k26_4
        have k27_5 := kt hg27 5 k26_5
        have k27_8 := kt hg27 8 k26_8
        have k27_9 := kt hg27 9 k26_9
        have k27_13 := kt hg27 13 k26_13
        have k27_14 := kt hg27 14 k26_14
        have k27_15 := kt hg27 15 k26_15
        have k27_11 := kt hg27 11 k26_11
        have k27_16 := kt hg27 16 (hB27.is 35)
        refine ry 5 [(135, 0), (136, 1), (137, 2), (138, 3), (11, 4)] [[], [0], [1], [1, 2], [0, 3]] (rel [iB (Bo 0 k), iB (Bo 0 k), gd (Bo 0 k) false (iB (((panS vi 0 (Lo 0 + (k : Int)) cal) && (gapS vi 1 (Lo 0 + (k : Int)) (fb 1) off cal)) && ((b.isOpen) || (gapS vi 1 (Lo 0 + (k : Int)) (ft 1) off cal)))), iB ((Bo 0 k) || (((panS vi 0 (Lo 0 + (k : Int)) cal) && (gapS vi 1 (Lo 0 + (k : Int)) (fb 1) off cal)) && ((b.isOpen) || (gapS vi 1 (Lo 0 + (k : Int)) (ft 1) off cal)))), iB ((Bo 0 k) || (((panS vi 0 (Lo 0 + (k : Int)) cal) && (gapS vi 1 (Lo 0 + (k : Int)) (fb 1) off cal)) && ((b.isOpen) || (gapS vi 1 (Lo 0 + (k : Int)) (ft 1) off cal))))])
         ⟨fun f s W l m q r u a => opm (a.v 11 ((r 4 11 rfl rfl).trans k27_11)),
  fun f s W l m q r u a => opm (a.v 135 (m 0 rfl)),
  fun f s W l m q r u a => gdo rfl rfl (a.says (d := 136) rfl rfl (m 1 rfl)) fun hgd0 => gv (by simp [go_sem, a.e 16 k27_16]) rfl,
  fun f s W l m q r u a => opk (c := Bo 0 k) rfl rfl (fun hpk => by simp [go_sem, hpk, a.e 136 (m 1 rfl), a.e 137 ((m 2 rfl).1 hpk)]) (fun hpk => by simp [go_sem, hpk, a.e 136 (m 1 rfl)]),
  fun f s W l m q r u a => opm (a.v 138 (m 3 rfl)), trivial⟩ ?_
        intro f28 s28 W28 hB28 g28 hg28 z28
        have fB28 := hB28.f fB27
        have b28_0 := hB28.b b27_0
        have b28_1 := hB28.b b27_1
        have b28_2 := hB28.b b27_2
        have q145' := (q140'.below hB28.below)
        have q146' := (q141'.below hB28.below)
        have q147' := (q142'.below hB28.below)
        have q148' := (q143'.below hB28.below)
        have q149' := (q144'.below hB28.below)
        refine wpe ?_
        have k28_2 := kt hg28 2 k27_2
        have k28_3 := kt hg28 3 k27_3
        have k28_4 := kt hg28 4 k27_4
        have k28_5 := kt hg28 5 k27_5
        have k28_8 := kt hg28 8 k27_8
        have k28_9 := kt hg28 9 k27_9
        have k28_13 := kt hg28 13 k27_13
        have k28_14 := kt hg28 14 k27_14
        have k28_15 := kt hg28 15 k27_15
        have k28_11 := kt hg28 11 (hB28.is 4)
        refine ibn ?_
        refine hK32 _ _ ?_
        refine ry 3 [(83, 0), (84, 1), (15, 2)] [[], [0], [0, 1]] (rel [iI ((k : Int)), iI ((k : Int) + 1), iI ((k : Int) + 1)])
         ⟨fun f s W l m q r u a => opm (a.v 15 ((r 2 15 rfl rfl).trans k28_15)),
  fun f s W l m q r u a => opv rfl rfl (by simp [go_sem, a.e 83 (m 0 rfl), IntWalk.i64_in ((k : Int) + 1) (by omega)]) rfl,
  fun f s W l m q r u a => opm (a.v 84 (m 1 rfl)), trivial⟩ ?_
        intro f29 s29 W29 hB29 g29 hg29 z29
        have fB29 := hB29.f fB28
        have b29_0 := hB29.b b28_0
        have b29_1 := hB29.b b28_1
        have b29_2 := hB29.b b28_2
        have q150' := (q145'.below hB29.below)
        have q151' := (q146'.below hB29.below)
        have q152' := (q147'.below hB29.below)
        have q153' := (q148'.below hB29.below)
        have q154' := (q149'.below hB29.below)
        refine wpe ?_
        have k29_2 := kt hg29 2 k28_2
        have k29_3 := kt hg29 3 k28_3
        have k29_4 := kt hg29 4 k28_4
        have k29_5 := kt hg29 5 k28_5
        have k29_8 := kt hg29 8 k28_8
        have k29_9 := kt hg29 9 k28_9
        have k29_13 := kt hg29 13 k28_13
        have k29_14 := kt hg29 14 k28_14
        have k29_11 := kt hg29 11 k28_11
        have k29_15 := kt hg29 15 (hB29.is 2)
        refine then_normal ?_
        exact ⟨_, by omega, g29, rfl, k + 1, (Lo 0 + (k : Int)), rfl, k29_2, k29_3, k29_4, k29_5, k29_8, k29_9, k29_13, k29_14, k29_15.trans (by go_num), k29_11.trans (by rw [hBs, ← hfb, ← hft]; rfl), fB29, (by omega), b29_0, b29_1, b29_2, q150', q151', q152', q153', q154', (by omega), (psIn_set lp2 _ ⟨by omega, by omega⟩)⟩
       ·
        refine ry 36 [(100, 0), (101, 1), (102, 2), (103, 3), (104, 4), (105, 5), (106, 6), (107, 7), (108, 8), (109, 9), (110, 10), (111, 11), (112, 12), (113, 13), (114, 14), (115, 15), (116, 16), (117, 17), (118, 18), (119, 19), (120, 20), (121, 21), (122, 22), (123, 23), (124, 24), (125, 25), (126, 26), (127, 27), (128, 28), (129, 29), (130, 30), (131, 31), (132, 32), (133, 33), (134, 34), (16, 35)] [[], [0], [1], [1], [1, 3], [1], [1, 5], [1, 4, 6], [1, 7], [1], [1], [1, 10], [1], [1], [1, 2, 8, 9, 11, 12, 13], [1, 14], [15], [16], [16, 17], [16, 18], [19], [19], [19, 21], [19], [19, 23], [19, 22, 24], [19, 25], [19], [19], [19, 28], [19], [19], [19, 20, 26, 27, 29, 30, 31], [16, 19, 32], [16, 33], [0, 34]] (rel [iB (panS vi 1 (Lo 1 + (k : Int)) cal), iB (panS vi 1 (Lo 1 + (k : Int)) cal), gd (panS vi 1 (Lo 1 + (k : Int)) cal) true (is (.agg #[.int .i64 b.tab, .slice (some ⟨g1', 0, none⟩) (b.panels.length) c4', .int .i64 yh, .slice (some ⟨g2', 0, none⟩) (b.top.length) c5', .slice (some ⟨g3', 0, none⟩) (b.bottom.length) c6', .int .i64 (min 20 (b.slot + off)), .bool b.isOpen])), gd (panS vi 1 (Lo 1 + (k : Int)) cal) true (is (.pointer (some ⟨(s1 0), 4, none⟩))), gd (panS vi 1 (Lo 1 + (k : Int)) cal) true (is (.slice a3 (b.bottom.length) c3)), gd (panS vi 1 (Lo 1 + (k : Int)) cal) true (iI 1), gd (panS vi 1 (Lo 1 + (k : Int)) cal) true (iI 0), gd (panS vi 1 (Lo 1 + (k : Int)) cal) true (is (.pointer (some ⟨q3, o3, none⟩))), gd (panS vi 1 (Lo 1 + (k : Int)) cal) true (iI ((fb 0))), gd (panS vi 1 (Lo 1 + (k : Int)) cal) true (iI off), gd (panS vi 1 (Lo 1 + (k : Int)) cal) true (iI 1), gd (panS vi 1 (Lo 1 + (k : Int)) cal) true (iI 0), gd (panS vi 1 (Lo 1 + (k : Int)) cal) true (is (.agg #[.int .i64 vi.length.1, .int .i64 vi.length.2, .int .i64 vi.width.1, .int .i64 vi.width.2, .int .i64 vi.height.1, .int .i64 vi.height.2, .int .i64 vi.outer.1, .int .i64 vi.outer.2, .int .i64 vi.inner.1, .int .i64 vi.inner.2, .bool vi.isOpen])), gd (panS vi 1 (Lo 1 + (k : Int)) cal) true (iI cal), gd (panS vi 1 (Lo 1 + (k : Int)) cal) true (iB (gapS vi 0 (Lo 1 + (k : Int)) (fb 0) off cal)), iB ((panS vi 1 (Lo 1 + (k : Int)) cal) && (gapS vi 0 (Lo 1 + (k : Int)) (fb 0) off cal)), iB ((panS vi 1 (Lo 1 + (k : Int)) cal) && (gapS vi 0 (Lo 1 + (k : Int)) (fb 0) off cal)), gd ((panS vi 1 (Lo 1 + (k : Int)) cal) && (gapS vi 0 (Lo 1 + (k : Int)) (fb 0) off cal)) true (is (.pointer (some ⟨(s1 0), 6, none⟩))), gd ((panS vi 1 (Lo 1 + (k : Int)) cal) && (gapS vi 0 (Lo 1 + (k : Int)) (fb 0) off cal)) true (iB b.isOpen), gd ((panS vi 1 (Lo 1 + (k : Int)) cal) && (gapS vi 0 (Lo 1 + (k : Int)) (fb 0) off cal)) true (iB b.isOpen), gd ((panS vi 1 (Lo 1 + (k : Int)) cal) && (gapS vi 0 (Lo 1 + (k : Int)) (fb 0) off cal)) true (gd (b.isOpen) false (is (.agg #[.int .i64 b.tab, .slice (some ⟨g1', 0, none⟩) (b.panels.length) c4', .int .i64 yh, .slice (some ⟨g2', 0, none⟩) (b.top.length) c5', .slice (some ⟨g3', 0, none⟩) (b.bottom.length) c6', .int .i64 (min 20 (b.slot + off)), .bool b.isOpen]))), gd ((panS vi 1 (Lo 1 + (k : Int)) cal) && (gapS vi 0 (Lo 1 + (k : Int)) (fb 0) off cal)) true (gd (b.isOpen) false (is (.pointer (some ⟨(s1 0), 3, none⟩)))), gd ((panS vi 1 (Lo 1 + (k : Int)) cal) && (gapS vi 0 (Lo 1 + (k : Int)) (fb 0) off cal)) true (gd (b.isOpen) false (is (.slice a2 (b.top.length) c2))), gd ((panS vi 1 (Lo 1 + (k : Int)) cal) && (gapS vi 0 (Lo 1 + (k : Int)) (fb 0) off cal)) true (gd (b.isOpen) false (iI 1)), gd ((panS vi 1 (Lo 1 + (k : Int)) cal) && (gapS vi 0 (Lo 1 + (k : Int)) (fb 0) off cal)) true (gd (b.isOpen) false (iI 0)), gd ((panS vi 1 (Lo 1 + (k : Int)) cal) && (gapS vi 0 (Lo 1 + (k : Int)) (fb 0) off cal)) true (gd (b.isOpen) false (is (.pointer (some ⟨q2, o2, none⟩)))), gd ((panS vi 1 (Lo 1 + (k : Int)) cal) && (gapS vi 0 (Lo 1 + (k : Int)) (fb 0) off cal)) true (gd (b.isOpen) false (iI ((ft 0)))), gd ((panS vi 1 (Lo 1 + (k : Int)) cal) && (gapS vi 0 (Lo 1 + (k : Int)) (fb 0) off cal)) true (gd (b.isOpen) false (iI off)), gd ((panS vi 1 (Lo 1 + (k : Int)) cal) && (gapS vi 0 (Lo 1 + (k : Int)) (fb 0) off cal)) true (gd (b.isOpen) false (iI 1)), gd ((panS vi 1 (Lo 1 + (k : Int)) cal) && (gapS vi 0 (Lo 1 + (k : Int)) (fb 0) off cal)) true (gd (b.isOpen) false (iI 0)), gd ((panS vi 1 (Lo 1 + (k : Int)) cal) && (gapS vi 0 (Lo 1 + (k : Int)) (fb 0) off cal)) true (gd (b.isOpen) false (is (.agg #[.int .i64 vi.length.1, .int .i64 vi.length.2, .int .i64 vi.width.1, .int .i64 vi.width.2, .int .i64 vi.height.1, .int .i64 vi.height.2, .int .i64 vi.outer.1, .int .i64 vi.outer.2, .int .i64 vi.inner.1, .int .i64 vi.inner.2, .bool vi.isOpen]))), gd ((panS vi 1 (Lo 1 + (k : Int)) cal) && (gapS vi 0 (Lo 1 + (k : Int)) (fb 0) off cal)) true (gd (b.isOpen) false (iI cal)), gd ((panS vi 1 (Lo 1 + (k : Int)) cal) && (gapS vi 0 (Lo 1 + (k : Int)) (fb 0) off cal)) true (gd (b.isOpen) false (iB (gapS vi 0 (Lo 1 + (k : Int)) (ft 0) off cal))), gd ((panS vi 1 (Lo 1 + (k : Int)) cal) && (gapS vi 0 (Lo 1 + (k : Int)) (fb 0) off cal)) true (iB ((b.isOpen) || (gapS vi 0 (Lo 1 + (k : Int)) (ft 0) off cal))), iB (((panS vi 1 (Lo 1 + (k : Int)) cal) && (gapS vi 0 (Lo 1 + (k : Int)) (fb 0) off cal)) && ((b.isOpen) || (gapS vi 0 (Lo 1 + (k : Int)) (ft 0) off cal))), iB (((panS vi 1 (Lo 1 + (k : Int)) cal) && (gapS vi 0 (Lo 1 + (k : Int)) (fb 0) off cal)) && ((b.isOpen) || (gapS vi 0 (Lo 1 + (k : Int)) (ft 0) off cal)))])
         ⟨fun f s W l m q r u a => opm (a.v 16 ((r 35 16 rfl rfl).trans k26_16)),
  fun f s W l m q r u a => opm (a.v 100 (m 0 rfl)),
  fun f s W l m q r u a => gdo rfl rfl (a.says (d := 101) rfl rfl (m 1 rfl)) fun hgd0 => gv (by simp [go_sem, a.e 9 k26_9, cb b26_2 l 0, cb b26_2 l 1, cb b26_2 l 2, cb b26_2 l 3, cb b26_2 l 4, cb b26_2 l 5, cb b26_2 l 6]) rfl,
  fun f s W l m q r u a => gdo rfl rfl (a.says (d := 101) rfl rfl (m 1 rfl)) fun hgd0 => gv (by simp [go_sem, a.e 4 k26_4]) rfl,
  fun f s W l m q r u a => gdo rfl rfl (a.says (d := 101) rfl rfl (m 1 rfl)) fun hgd0 => gv (by simp [go_sem, a.e 103 ((m 3 rfl).1 hgd0), cb b26_0 l 4]) rfl,
  fun f s W l m q r u a => gdo rfl rfl (a.says (d := 101) rfl rfl (m 1 rfl)) fun hgd0 => gv (by simp [go_sem, a.e 13 k26_13]) rfl,
  fun f s W l m q r u a => gdo rfl rfl (a.says (d := 101) rfl rfl (m 1 rfl)) fun hgd0 => gv (by simp [go_sem, a.e 105 ((m 5 rfl).1 hgd0), IntWalk.i64_in (0) (by omega)]) rfl,
  fun f s W l m q r u a => gdo rfl rfl (a.says (d := 101) rfl rfl (m 1 rfl)) fun hgd0 => gv (by simp [go_sem, a.e 104 ((m 4 rfl).1 hgd0), a.e 106 ((m 6 rfl).1 hgd0), hq3, hl3]) rfl,
  fun f s W l m q r u a => gdo rfl rfl (a.says (d := 101) rfl rfl (m 1 rfl)) fun hgd0 => by have y := bwt fB26 l; have u_ : W.cell? ⟨q3, o3, none⟩ = some (.int .i64 ((fb 0))) := ((y.cell (p := ⟨q3, o3, none⟩) hql3).trans (hqc3 0 (by omega))).trans (by rw [hfb]); exact gv (by simp [go_sem, a.e 107 ((m 7 rfl).1 hgd0), u_]) rfl,
  fun f s W l m q r u a => gdo rfl rfl (a.says (d := 101) rfl rfl (m 1 rfl)) fun hgd0 => gv (by simp [go_sem, a.e 3 k26_3]) rfl,
  fun f s W l m q r u a => gdo rfl rfl (a.says (d := 101) rfl rfl (m 1 rfl)) fun hgd0 => gv (by simp [go_sem, a.e 13 k26_13]) rfl,
  fun f s W l m q r u a => gdo rfl rfl (a.says (d := 101) rfl rfl (m 1 rfl)) fun hgd0 => gv (by simp [go_sem, a.e 110 ((m 10 rfl).1 hgd0), IntWalk.i64_in (0) (by omega)]) rfl,
  fun f s W l m q r u a => gdo rfl rfl (a.says (d := 101) rfl rfl (m 1 rfl)) fun hgd0 => gv (by simp [go_sem, a.e 5 k26_5, cb b26_1 l 0, cb b26_1 l 1, cb b26_1 l 2, cb b26_1 l 3, cb b26_1 l 4, cb b26_1 l 5, cb b26_1 l 6, cb b26_1 l 7, cb b26_1 l 8, cb b26_1 l 9, cb b26_1 l 10]) rfl,
  fun f s W l m q r u a => gdo rfl rfl (a.says (d := 101) rfl rfl (m 1 rfl)) fun hgd0 => gv (by simp [go_sem, a.e 2 k26_2]) rfl,
  fun f s W l m q r u a => gdo rfl rfl (a.says (d := 101) rfl rfl (m 1 rfl)) fun hgd0 => gc (args := #[.agg #[.int .i64 b.tab, .slice (some ⟨g1', 0, none⟩) (b.panels.length) c4', .int .i64 yh, .slice (some ⟨g2', 0, none⟩) (b.top.length) c5', .slice (some ⟨g3', 0, none⟩) (b.bottom.length) c6', .int .i64 (min 20 (b.slot + off)), .bool b.isOpen], .int .i64 ((fb 0)), .int .i64 off, .int .i64 0, .bool false, .agg #[.int .i64 vi.length.1, .int .i64 vi.length.2, .int .i64 vi.width.1, .int .i64 vi.width.2, .int .i64 vi.height.1, .int .i64 vi.height.2, .int .i64 vi.outer.1, .int .i64 vi.outer.2, .int .i64 vi.inner.1, .int .i64 vi.inner.2, .bool vi.isOpen], .int .i64 cal]) (by simp [go_sem, a.e 102 ((m 2 rfl).1 hgd0), a.e 108 ((m 8 rfl).1 hgd0), a.e 109 ((m 9 rfl).1 hgd0), a.e 111 ((m 11 rfl).1 hgd0), a.e 112 ((m 12 rfl).1 hgd0), a.e 113 ((m 13 rfl).1 hgd0)]) (someR_bb (b := mayX b (min 20 (b.slot + off)) (yh) (ps.set 1 ((Lo 1 + (k : Int))))) vi 0 0 (Lo 1 + (k : Int)) ((fb 0)) off cal (max 0 ((fb 0) - off)) (min 3000 ((fb 0) + off)) W ⟨_, _, _, _, _, _, _, _, _, rfl, (OwnI.iin (n := b.panels.length) ((q139'.below l)) ((List.length_set ..).trans (lp2.1.trans hl1.symm))), (OwnI.iin (n := b.top.length) ((q135'.below l)) rfl), (OwnI.iin (n := b.bottom.length) ((q136'.below l)) rfl)⟩ (mayX_ok hck ⟨by omega, by omega⟩ ⟨by omega, by omega⟩ (psIn_set lp2 _ ⟨by omega, by omega⟩)) hw (by decide) (by omega) hof gcl rfl (by omega) (by omega) (by omega) (show (mayX b (min 20 (b.slot + off)) (yh) (ps.set 1 ((Lo 1 + (k : Int))))).panels.getD (1 - 0) 0 = (Lo 1 + (k : Int)) from pan_set (i := 1) lp2 (by decide)) rfl),
  fun f s W l m q r u a => opk (c := panS vi 1 (Lo 1 + (k : Int)) cal) rfl rfl (fun hpk => by simp [go_sem, hpk, a.e 101 (m 1 rfl)]) (fun hpk => by simp [go_sem, hpk, a.e 101 (m 1 rfl), a.e 114 ((m 14 rfl).1 hpk)]),
  fun f s W l m q r u a => opm (a.v 115 (m 15 rfl)),
  fun f s W l m q r u a => gdo rfl rfl (a.says (d := 116) rfl rfl (m 16 rfl)) fun hgd0 => gv (by simp [go_sem, a.e 4 k26_4]) rfl,
  fun f s W l m q r u a => gdo rfl rfl (a.says (d := 116) rfl rfl (m 16 rfl)) fun hgd0 => gv (by simp [go_sem, a.e 117 ((m 17 rfl).1 hgd0), cb b26_0 l 6]) rfl,
  fun f s W l m q r u a => gdo rfl rfl (a.says (d := 116) rfl rfl (m 16 rfl)) fun hgd0 => gv (by simp [go_sem, a.e 118 ((m 18 rfl).1 hgd0)]) rfl,
  fun f s W l m q r u a => gdo2 rfl rfl a (d := 119) rfl rfl (m 19 rfl) fun hgd0 hgd1 => gv (by simp [go_sem, a.e 9 k26_9, cb b26_2 l 0, cb b26_2 l 1, cb b26_2 l 2, cb b26_2 l 3, cb b26_2 l 4, cb b26_2 l 5, cb b26_2 l 6]) rfl,
  fun f s W l m q r u a => gdo2 rfl rfl a (d := 119) rfl rfl (m 19 rfl) fun hgd0 hgd1 => gv (by simp [go_sem, a.e 4 k26_4]) rfl,
  fun f s W l m q r u a => gdo2 rfl rfl a (d := 119) rfl rfl (m 19 rfl) fun hgd0 hgd1 => gv (by simp [go_sem, a.e 121 (((m 21 rfl).1 hgd0).1 hgd1), cb b26_0 l 3]) rfl,
  fun f s W l m q r u a => gdo2 rfl rfl a (d := 119) rfl rfl (m 19 rfl) fun hgd0 hgd1 => gv (by simp [go_sem, a.e 13 k26_13]) rfl,
  fun f s W l m q r u a => gdo2 rfl rfl a (d := 119) rfl rfl (m 19 rfl) fun hgd0 hgd1 => gv (by simp [go_sem, a.e 123 (((m 23 rfl).1 hgd0).1 hgd1), IntWalk.i64_in (0) (by omega)]) rfl,
  fun f s W l m q r u a => gdo2 rfl rfl a (d := 119) rfl rfl (m 19 rfl) fun hgd0 hgd1 => gv (by simp [go_sem, a.e 122 (((m 22 rfl).1 hgd0).1 hgd1), a.e 124 (((m 24 rfl).1 hgd0).1 hgd1), hq2, hl2]) rfl,
  fun f s W l m q r u a => gdo2 rfl rfl a (d := 119) rfl rfl (m 19 rfl) fun hgd0 hgd1 => by have y := bwt fB26 l; have u_ : W.cell? ⟨q2, o2, none⟩ = some (.int .i64 ((ft 0))) := ((y.cell (p := ⟨q2, o2, none⟩) hql2).trans (hqc2 0 (by omega))).trans (by rw [hft]); exact gv (by simp [go_sem, a.e 125 (((m 25 rfl).1 hgd0).1 hgd1), u_]) rfl,
  fun f s W l m q r u a => gdo2 rfl rfl a (d := 119) rfl rfl (m 19 rfl) fun hgd0 hgd1 => gv (by simp [go_sem, a.e 3 k26_3]) rfl,
  fun f s W l m q r u a => gdo2 rfl rfl a (d := 119) rfl rfl (m 19 rfl) fun hgd0 hgd1 => gv (by simp [go_sem, a.e 13 k26_13]) rfl,
  fun f s W l m q r u a => gdo2 rfl rfl a (d := 119) rfl rfl (m 19 rfl) fun hgd0 hgd1 => gv (by simp [go_sem, a.e 128 (((m 28 rfl).1 hgd0).1 hgd1), IntWalk.i64_in (0) (by omega)]) rfl,
  fun f s W l m q r u a => gdo2 rfl rfl a (d := 119) rfl rfl (m 19 rfl) fun hgd0 hgd1 => gv (by simp [go_sem, a.e 5 k26_5, cb b26_1 l 0, cb b26_1 l 1, cb b26_1 l 2, cb b26_1 l 3, cb b26_1 l 4, cb b26_1 l 5, cb b26_1 l 6, cb b26_1 l 7, cb b26_1 l 8, cb b26_1 l 9, cb b26_1 l 10]) rfl,
  fun f s W l m q r u a => gdo2 rfl rfl a (d := 119) rfl rfl (m 19 rfl) fun hgd0 hgd1 => gv (by simp [go_sem, a.e 2 k26_2]) rfl,
  fun f s W l m q r u a => gdo2 rfl rfl a (d := 119) rfl rfl (m 19 rfl) fun hgd0 hgd1 => gc (args := #[.agg #[.int .i64 b.tab, .slice (some ⟨g1', 0, none⟩) (b.panels.length) c4', .int .i64 yh, .slice (some ⟨g2', 0, none⟩) (b.top.length) c5', .slice (some ⟨g3', 0, none⟩) (b.bottom.length) c6', .int .i64 (min 20 (b.slot + off)), .bool b.isOpen], .int .i64 ((ft 0)), .int .i64 off, .int .i64 0, .bool true, .agg #[.int .i64 vi.length.1, .int .i64 vi.length.2, .int .i64 vi.width.1, .int .i64 vi.width.2, .int .i64 vi.height.1, .int .i64 vi.height.2, .int .i64 vi.outer.1, .int .i64 vi.outer.2, .int .i64 vi.inner.1, .int .i64 vi.inner.2, .bool vi.isOpen], .int .i64 cal]) (by simp [go_sem, a.e 120 (((m 20 rfl).1 hgd0).1 hgd1), a.e 126 (((m 26 rfl).1 hgd0).1 hgd1), a.e 127 (((m 27 rfl).1 hgd0).1 hgd1), a.e 129 (((m 29 rfl).1 hgd0).1 hgd1), a.e 130 (((m 30 rfl).1 hgd0).1 hgd1), a.e 131 (((m 31 rfl).1 hgd0).1 hgd1)]) (someR_tt (b := mayX b (min 20 (b.slot + off)) (yh) (ps.set 1 ((Lo 1 + (k : Int))))) vi 0 0 (Lo 1 + (k : Int)) ((ft 0)) off cal (max 0 ((ft 0) - off)) (min 3000 ((ft 0) + off)) W ⟨_, _, _, _, _, _, _, _, _, rfl, (OwnI.iin (n := b.panels.length) ((q139'.below l)) ((List.length_set ..).trans (lp2.1.trans hl1.symm))), (OwnI.iin (n := b.top.length) ((q135'.below l)) rfl), (OwnI.iin (n := b.bottom.length) ((q136'.below l)) rfl)⟩ (mayX_ok hck ⟨by omega, by omega⟩ ⟨by omega, by omega⟩ (psIn_set lp2 _ ⟨by omega, by omega⟩)) hw (by decide) (by omega) hof gcl rfl (by omega) (by omega) (by omega) (show (mayX b (min 20 (b.slot + off)) (yh) (ps.set 1 ((Lo 1 + (k : Int))))).panels.getD (1 - 0) 0 = (Lo 1 + (k : Int)) from pan_set (i := 1) lp2 (by decide)) rfl (by first | assumption | exact hgd1) (hbw (by first | assumption | exact hgd1))),
  fun f s W l m q r u a => gdo rfl rfl (a.says (d := 116) rfl rfl (m 16 rfl)) fun hgd0 => gk (c := b.isOpen) (fun hpk => by simp [go_sem, hpk, a.e 119 ((m 19 rfl).1 hgd0), a.e 132 (((m 32 rfl).1 hgd0).1 hpk)]) (fun hpk => by simp [go_sem, hpk, a.e 119 ((m 19 rfl).1 hgd0)]),
  fun f s W l m q r u a => opk (c := (panS vi 1 (Lo 1 + (k : Int)) cal) && (gapS vi 0 (Lo 1 + (k : Int)) (fb 0) off cal)) rfl rfl (fun hpk => by simp [go_sem, hpk, a.e 116 (m 16 rfl)]) (fun hpk => by simp [go_sem, hpk, a.e 116 (m 16 rfl), a.e 133 ((m 33 rfl).1 hpk)]),
  fun f s W l m q r u a => opm (a.v 134 (m 34 rfl)), trivial⟩ ?_
        intro f30 s30 W30 hB30 g30 hg30 z30
        have fB30 := hB30.f fB26
        have b30_0 := hB30.b b26_0
        have b30_1 := hB30.b b26_1
        have b30_2 := hB30.b b26_2
        have q155' := (q135'.below hB30.below)
        have q156' := (q136'.below hB30.below)
        have q157' := (q137'.below hB30.below)
        have q158' := (q138'.below hB30.below)
        have q159' := (q139'.below hB30.below)
        refine hK35 _ _ ?_
        have k30_2 := kt hg30 2 k26_2
        have k30_3 := kt hg30 3 k26_3
        have k30_4 := kt hg30 4 k26_4
        have k30_5 := kt hg30 5 k26_5
        have k30_8 := kt hg30 8 k26_8
        have k30_9 := kt hg30 9 k26_9
        have k30_13 := kt hg30 13 k26_13
        have k30_14 := kt hg30 14 k26_14
        have k30_15 := kt hg30 15 k26_15
        have k30_11 := kt hg30 11 k26_11
        have k30_16 := kt hg30 16 (hB30.is 35)
        refine ry 5 [(135, 0), (136, 1), (137, 2), (138, 3), (11, 4)] [[], [0], [1], [1, 2], [0, 3]] (rel [iB (Bo 1 k), iB (Bo 1 k), gd (Bo 1 k) false (iB (((panS vi 1 (Lo 1 + (k : Int)) cal) && (gapS vi 0 (Lo 1 + (k : Int)) (fb 0) off cal)) && ((b.isOpen) || (gapS vi 0 (Lo 1 + (k : Int)) (ft 0) off cal)))), iB ((Bo 1 k) || (((panS vi 1 (Lo 1 + (k : Int)) cal) && (gapS vi 0 (Lo 1 + (k : Int)) (fb 0) off cal)) && ((b.isOpen) || (gapS vi 0 (Lo 1 + (k : Int)) (ft 0) off cal)))), iB ((Bo 1 k) || (((panS vi 1 (Lo 1 + (k : Int)) cal) && (gapS vi 0 (Lo 1 + (k : Int)) (fb 0) off cal)) && ((b.isOpen) || (gapS vi 0 (Lo 1 + (k : Int)) (ft 0) off cal))))])
         ⟨fun f s W l m q r u a => opm (a.v 11 ((r 4 11 rfl rfl).trans k30_11)),
  fun f s W l m q r u a => opm (a.v 135 (m 0 rfl)),
  fun f s W l m q r u a => gdo rfl rfl (a.says (d := 136) rfl rfl (m 1 rfl)) fun hgd0 => gv (by simp [go_sem, a.e 16 k30_16]) rfl,
  fun f s W l m q r u a => opk (c := Bo 1 k) rfl rfl (fun hpk => by simp [go_sem, hpk, a.e 136 (m 1 rfl), a.e 137 ((m 2 rfl).1 hpk)]) (fun hpk => by simp [go_sem, hpk, a.e 136 (m 1 rfl)]),
  fun f s W l m q r u a => opm (a.v 138 (m 3 rfl)), trivial⟩ ?_
        intro f31 s31 W31 hB31 g31 hg31 z31
        have fB31 := hB31.f fB30
        have b31_0 := hB31.b b30_0
        have b31_1 := hB31.b b30_1
        have b31_2 := hB31.b b30_2
        have q160' := (q155'.below hB31.below)
        have q161' := (q156'.below hB31.below)
        have q162' := (q157'.below hB31.below)
        have q163' := (q158'.below hB31.below)
        have q164' := (q159'.below hB31.below)
        refine wpe ?_
        have k31_2 := kt hg31 2 k30_2
        have k31_3 := kt hg31 3 k30_3
        have k31_4 := kt hg31 4 k30_4
        have k31_5 := kt hg31 5 k30_5
        have k31_8 := kt hg31 8 k30_8
        have k31_9 := kt hg31 9 k30_9
        have k31_13 := kt hg31 13 k30_13
        have k31_14 := kt hg31 14 k30_14
        have k31_15 := kt hg31 15 k30_15
        have k31_11 := kt hg31 11 (hB31.is 4)
        refine ibn ?_
        refine hK32 _ _ ?_
        refine ry 3 [(83, 0), (84, 1), (15, 2)] [[], [0], [0, 1]] (rel [iI ((k : Int)), iI ((k : Int) + 1), iI ((k : Int) + 1)])
         ⟨fun f s W l m q r u a => opm (a.v 15 ((r 2 15 rfl rfl).trans k31_15)),
  fun f s W l m q r u a => opv rfl rfl (by simp [go_sem, a.e 83 (m 0 rfl), IntWalk.i64_in ((k : Int) + 1) (by omega)]) rfl,
  fun f s W l m q r u a => opm (a.v 84 (m 1 rfl)), trivial⟩ ?_
        intro f32 s32 W32 hB32 g32 hg32 z32
        have fB32 := hB32.f fB31
        have b32_0 := hB32.b b31_0
        have b32_1 := hB32.b b31_1
        have b32_2 := hB32.b b31_2
        have q165' := (q160'.below hB32.below)
        have q166' := (q161'.below hB32.below)
        have q167' := (q162'.below hB32.below)
        have q168' := (q163'.below hB32.below)
        have q169' := (q164'.below hB32.below)
        refine wpe ?_
        have k32_2 := kt hg32 2 k31_2
        have k32_3 := kt hg32 3 k31_3
        have k32_4 := kt hg32 4 k31_4
        have k32_5 := kt hg32 5 k31_5
        have k32_8 := kt hg32 8 k31_8
        have k32_9 := kt hg32 9 k31_9
        have k32_13 := kt hg32 13 k31_13
        have k32_14 := kt hg32 14 k31_14
        have k32_11 := kt hg32 11 k31_11
        have k32_15 := kt hg32 15 (hB32.is 2)
        refine then_normal ?_
        exact ⟨_, by omega, g32, rfl, k + 1, (Lo 1 + (k : Int)), rfl, k32_2, k32_3, k32_4, k32_5, k32_8, k32_9, k32_13, k32_14, k32_15.trans (by go_num), k32_11.trans (by rw [hBs, ← hfb, ← hft]; rfl), fB32, (by omega), b32_0, b32_1, b32_2, q165', q166', q167', q168', q169', (by omega), (psIn_set lp2 _ ⟨by omega, by omega⟩)⟩
      ·
       have hc37' := hc37; try simp only [ba] at hc37'
       have hi2 : ¬ i < 2 := by omega
       refine wp_skip ?_
       refine hK35 _ _ ?_
       refine ry 5 [(135, 0), (136, 1), (137, 2), (138, 3), (11, 4)] [[], [0], [1], [1, 2], [0, 3]] (rel [iB (Bo i k), iB (Bo i k), gd (Bo i k) false (iB (panS vi i (Lo i + (k : Int)) cal)), iB ((Bo i k) || (panS vi i (Lo i + (k : Int)) cal)), iB ((Bo i k) || (panS vi i (Lo i + (k : Int)) cal))])
        ⟨fun f s W l m q r u a => opm (a.v 11 ((r 4 11 rfl rfl).trans k26_11)),
  fun f s W l m q r u a => opm (a.v 135 (m 0 rfl)),
  fun f s W l m q r u a => gdo rfl rfl (a.says (d := 136) rfl rfl (m 1 rfl)) fun hgd0 => gv (by simp [go_sem, a.e 16 k26_16]) rfl,
  fun f s W l m q r u a => opk (c := Bo i k) rfl rfl (fun hpk => by simp [go_sem, hpk, a.e 136 (m 1 rfl), a.e 137 ((m 2 rfl).1 hpk)]) (fun hpk => by simp [go_sem, hpk, a.e 136 (m 1 rfl)]),
  fun f s W l m q r u a => opm (a.v 138 (m 3 rfl)), trivial⟩ ?_
       intro f33 s33 W33 hB33 g33 hg33 z33
       have fB33 := hB33.f fB26
       have b33_0 := hB33.b b26_0
       have b33_1 := hB33.b b26_1
       have b33_2 := hB33.b b26_2
       have q170' := (q135'.below hB33.below)
       have q171' := (q136'.below hB33.below)
       have q172' := (q137'.below hB33.below)
       have q173' := (q138'.below hB33.below)
       have q174' := (q139'.below hB33.below)
       refine wpe ?_
       have k33_2 := kt hg33 2 k26_2
       have k33_3 := kt hg33 3 k26_3
       have k33_4 := kt hg33 4 k26_4
       have k33_5 := kt hg33 5 k26_5
       have k33_8 := kt hg33 8 k26_8
       have k33_9 := kt hg33 9 k26_9
       have k33_13 := kt hg33 13 k26_13
       have k33_14 := kt hg33 14 k26_14
       have k33_15 := kt hg33 15 k26_15
       have k33_11 := kt hg33 11 (hB33.is 4)
       refine ibn ?_
       refine hK32 _ _ ?_
       refine ry 3 [(83, 0), (84, 1), (15, 2)] [[], [0], [0, 1]] (rel [iI ((k : Int)), iI ((k : Int) + 1), iI ((k : Int) + 1)])
        ⟨fun f s W l m q r u a => opm (a.v 15 ((r 2 15 rfl rfl).trans k33_15)),
  fun f s W l m q r u a => opv rfl rfl (by simp [go_sem, a.e 83 (m 0 rfl), IntWalk.i64_in ((k : Int) + 1) (by omega)]) rfl,
  fun f s W l m q r u a => opm (a.v 84 (m 1 rfl)), trivial⟩ ?_
       intro f34 s34 W34 hB34 g34 hg34 z34
       have fB34 := hB34.f fB33
       have b34_0 := hB34.b b33_0
       have b34_1 := hB34.b b33_1
       have b34_2 := hB34.b b33_2
       have q175' := (q170'.below hB34.below)
       have q176' := (q171'.below hB34.below)
       have q177' := (q172'.below hB34.below)
       have q178' := (q173'.below hB34.below)
       have q179' := (q174'.below hB34.below)
       refine wpe ?_
       have k34_2 := kt hg34 2 k33_2
       have k34_3 := kt hg34 3 k33_3
       have k34_4 := kt hg34 4 k33_4
       have k34_5 := kt hg34 5 k33_5
       have k34_8 := kt hg34 8 k33_8
       have k34_9 := kt hg34 9 k33_9
       have k34_13 := kt hg34 13 k33_13
       have k34_14 := kt hg34 14 k33_14
       have k34_11 := kt hg34 11 k33_11
       have k34_15 := kt hg34 15 (hB34.is 2)
       refine then_normal ?_
       exact ⟨_, by omega, g34, rfl, k + 1, (Lo i + (k : Int)), rfl, k34_2, k34_3, k34_4, k34_5, k34_8, k34_9, k34_13, k34_14, k34_15.trans (by go_num), k34_11.trans (by rw [hBs, fine_ge hi2]), fB34, (by omega), b34_0, b34_1, b34_2, q175', q176', q177', q178', q179', (by omega), (psIn_set lp2 _ ⟨by omega, by omega⟩)⟩
     ·
      have hc31' := hc31; try simp only [ba] at hc31'
      refine wp_exit ?_
      refine then_exit ?_
      refine then_exit ?_
      refine inBlock_at ?_
      refine ibn ?_
      refine hK25 _ _ ?_
      refine ry 3 [(70, 0), (71, 1), (13, 2)] [[], [0], [0, 1]] (rel [iI ((i : Int)), iI ((i : Int) + 1), iI ((i : Int) + 1)])
       ⟨fun f s W l m q r u a => opm (a.v 13 ((r 2 13 rfl rfl).trans k22_13)),
  fun f s W l m q r u a => opv rfl rfl (by simp [go_sem, a.e 70 (m 0 rfl), IntWalk.i64_in ((i : Int) + 1) (by omega)]) rfl,
  fun f s W l m q r u a => opm (a.v 71 (m 1 rfl)), trivial⟩ ?_
      intro f35 s35 W35 hB35 g35 hg35 z35
      have fB35 := hB35.f fB22
      have b35_0 := hB35.b b22_0
      have b35_1 := hB35.b b22_1
      have b35_2 := hB35.b b22_2
      have q180' := (q116'.below hB35.below)
      have q181' := (q117'.below hB35.below)
      have q182' := (q118'.below hB35.below)
      have q183' := (q119'.below hB35.below)
      have q184' := (q120'.below hB35.below)
      refine wpe ?_
      have k35_2 := kt hg35 2 k22_2
      have k35_3 := kt hg35 3 k22_3
      have k35_4 := kt hg35 4 k22_4
      have k35_5 := kt hg35 5 k22_5
      have k35_8 := kt hg35 8 k22_8
      have k35_9 := kt hg35 9 k22_9
      have k35_11 := kt hg35 11 k22_11
      have k35_13 := kt hg35 13 (hB35.is 2)
      refine then_normal ?_
      exact ⟨_, by omega, g35, rfl, i + 1, ps.set i z, rfl, k35_2, k35_3, k35_4, k35_5, k35_8, k35_9, k35_13.trans (by go_num), k35_11.trans (by rw [hEs i hi4, show k = (rangeL (Lo i) (Up i)).length by omega]), fB35, (by omega), b35_0, b35_1, b35_2, q180', q181', q182', q184', (by omega), (up_to lp1 hEi), mp1⟩
    ·
     have hc24' := hc24; try simp only [ba] at hc24'
     refine wp_exit ?_
     refine then_exit ?_
     refine then_exit ?_
     refine inBlock_at ?_
     refine hK20 _ _ ?_
     refine rw_ 2 [(139, 0), (8, 1)] [[], [0]] (rel [iB (Eo i), iB (Eo i)])
      ⟨fun f s W l m q r u a => opm (a.v 11 k18_11),
  fun f s W l m q r u a => opm (a.v 139 (m 0 rfl)), trivial⟩ ?_
     intro f36 s36 W36 hB36 g36 hg36 z36
     have fB36 := hB36.f fB18
     have q185' := (q85'.below hB36.below)
     have q186' := (q86'.below hB36.below)
     have q187' := (q87'.below hB36.below)
     have q188' := (q88'.below hB36.below)
     have k36_8 := kt hg36 8 (hB36.is 1)
     refine wp_ret ?_
     refine leave_one (N := 140) (.inr rfl) Tryz.results32 rfl k36_8 ?_
     exact ⟨by rw [mayR_3 hc5 hc10, hEnd i lp0 lp1 hc24], fB36⟩
end Go.Proofs.YthnediamopehfaaGreat
