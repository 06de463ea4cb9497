/- Part of the proof: what the claim leans on. -/
import Derived.Test.YthnediamopehfaaGreatZINL2
set_option linter.unusedSimpArgs false
set_option linter.unusedVariables false
namespace Go.Proofs.YthnediamopehfaaGreat
open Go.RowKit
set_option maxRecDepth 100000 in
set_option maxHeartbeats 4000000 in
theorem widened_b (slo shi : Int) (a1 a2 a3 : Option Addr) (c1 c2 c3 : Nat) (tab p0 p1 p2 p3 hh t0 t1 u0 u1 sl : Int) (op : Bool) (w : World) (h1 : Ii w a1 4 c1 [p0, p1, p2, p3]) (h2 : Ii w a2 2 c2 [t0, t1]) (h3 : Ii w a3 2 c3 [u0, u1]) (cal off : Int) (hck : checkErr ⟨tab, [p0, p1, p2, p3], hh, [t0, t1], [u0, u1], sl, op⟩ = 0) (gcl : 1 ≤ cal ∧ cal ≤ 10000) (gof : 0 ≤ off ∧ off ≤ 5) :
  Calls Tryz.prog 20 #[.agg #[.int .i64 slo, .int .i64 shi], .agg #[.int .i64 tab, .slice (a1) (4) (c1), .int .i64 hh, .slice (a2) (2) (c2), .slice (a3) (2) (c3), .int .i64 sl, .bool op], .int .i64 4, .int .i64 cal, .int .i64 off] w (fun e w' => e = .returned (.agg #[.int .i64 (widR ⟨tab, [p0, p1, p2, p3], hh, [t0, t1], [u0, u1], sl, op⟩ 4 cal off (slo, shi)).1, .int .i64 (widR ⟨tab, [p0, p1, p2, p3], hh, [t0, t1], [u0, u1], sl, op⟩ 4 cal off (slo, shi)).2]) ∧ Below w.heap.size w w') := by
 have hgn := good_nums hck
 simp only [List.getD_cons_zero, List.getD_cons_succ] at hgn
 obtain ⟨-, gt, gs, gh, ⟨gp0, gp1, gp2, gp3⟩, gt0, gt1, gu0, gu1⟩ := hgn
 obtain ⟨q1, o1, hq1, hql1, hqc1⟩ := h1.at (by simp)
 obtain ⟨q2, o2, hq2, hql2, hqc2⟩ := h2.at (by simp)
 obtain ⟨q3, o3, hq3, hql3, hqc3⟩ := h3.at (by simp)
 obtain ⟨L, U, O, ⟨gL1, gL2, gL3⟩, hLG, hO0, hOs, hOe⟩ := wid_B hck gof.1 cal (slo, shi)
 change aroundL hh off 1 = _ at hLG
 change ∀ i : Nat, O (i + 1) = (min (O i).1 (if op = true then 1000 * (L + (i : Int)) - cal else 1000 * (L + (i : Int)) - cal - cal), max (O i).2 (if op = true then 1000 * (L + (i : Int)) - cal else 1000 * (L + (i : Int)) - cal - cal)) at hOs
 refine calls_fr Tryz.func20 Tryz.ntmps20 rfl rfl fun g hg => ?_
 have k0 : g 0 = .agg #[.int .i64 slo, .int .i64 shi] := hg 0
 have k1 : g 1 = .agg #[.int .i64 tab, .slice (a1) (4) (c1), .int .i64 hh, .slice (a2) (2) (c2), .slice (a3) (2) (c3), .int .i64 sl, .bool op] := hg 1
 have k2 : g 2 = .int .i64 4 := hg 2
 have k3 : g 3 = .int .i64 cal := hg 3
 have k4 : g 4 = .int .i64 off := hg 4
 clear hg
 have fB0 : Below w.heap.size w w := Below.refl _ _
 refine wp_seq_k fun K1 hK1 => ?_
 refine region_dk 3 [(5, 0), (6, 1), (10, 2)] [[], [], []] (rel [bx 0 #[.int .i64 slo, .int .i64 shi] 26,
   bx 1 #[.int .i64 tab, .slice (a1) (4) (c1), .int .i64 hh, .slice (a2) (2) (c2), .slice (a3) (2) (c3), .int .i64 sl, .bool op] 24,
   bx 2 #[.int .i64 0, .int .i64 0] 26])
  ⟨bx_k, bx_k, bx_k, trivial⟩
  ⟨fun f s W c d j l m a => opb rfl rfl (by simp [go_sem, a.e 0 k0]),
  fun f s W c d j l m a => opb rfl rfl (by simp [go_sem, a.e 1 k1]),
  fun f s W c d j l m a => opb rfl rfl (by simp [go_sem]), trivial⟩ ?_
 intro f1 s1 W1 hB1 g1 hg1
 have fB1 := hB1.f fB0
 have z1 := hB1.below.size
 obtain ⟨r1_0, br1_0⟩ := hB1.is 0
 have lr1_0 := hB1.lr 0 br1_0
 obtain ⟨r1_1, br1_1⟩ := hB1.is 1
 have lr1_1 := hB1.lr 1 br1_1
 obtain ⟨r1_2, br1_2⟩ := hB1.is 2
 have lr1_2 := hB1.lr 2 br1_2
 have ne1_0_1 := hB1.nb 0 1
 have ne1_0_2 := hB1.nb 0 2
 have ne1_1_2 := hB1.nb 1 2
 refine hK1 _ _ ?_
 have k1_2 := kt hg1 2 k2
 have k1_3 := kt hg1 3 k3
 have k1_4 := kt hg1 4 k4
 have k1_5 := kt hg1 5 r1_0
 have k1_6 := kt hg1 6 r1_1
 have k1_10 := kt hg1 10 r1_2
 refine wp_seq_k fun K2 hK2 => ?_
 refine region_dk 3 [(18, 0), (19, 1), (11, 2)] [[], [0], [], [0, 1, 2]] (rel [is (.agg #[.int .i64 tab, .slice (a1) (4) (c1), .int .i64 hh, .slice (a2) (2) (c2), .slice (a3) (2) (c3), .int .i64 sl, .bool op]),
   fun v s W => OwBlk (s 1) (⟨tab, [p0, p1, p2, p3], hh, [t0, t1], [u0, u1], sl, op⟩) v W,
   bx 2 #[.int .i64 0, .slice (none) (0) (0), .int .i64 0, .slice (none) (0) (0), .slice (none) (0) (0), .int .i64 0, .bool false] 24])
  ⟨is_k, ⟨fun v k W W' hb h => h.below hb, fun v s s' W e h => by have h' : OwBlk (s 1) (⟨tab, [p0, p1, p2, p3], hh, [t0, t1], [u0, u1], sl, op⟩) v W := h; show OwBlk (s' 1) (⟨tab, [p0, p1, p2, p3], hh, [t0, t1], [u0, u1], sl, op⟩) v W; rw [← e 1 (by simp)]; exact h'⟩, bx_k, trivial⟩
  ⟨fun f s W c d j l m a => opv rfl rfl (by simp [go_sem, a.e 6 k1_6, cb br1_1 c 0, cb br1_1 c 1, cb br1_1 c 2, cb br1_1 c 3, cb br1_1 c 4, cb br1_1 c 5, cb br1_1 c 6]) rfl,
  fun f s W c d j l m a => by have p := below_trans fB1 c; exact opDo_call rfl rfl (by simp [go_sem, a.e 18 (d 0 rfl)]) (own_own a1 a2 a3 c1 c2 c3 tab p0 p1 p2 p3 hh t0 t1 u0 u1 sl op W (h1.below p (Nat.le_refl _)) (h2.below p (Nat.le_refl _)) (h3.below p (Nat.le_refl _))) (fun e W' h => by obtain ⟨v, e1, h1, h2⟩ := h; exact ⟨v, e1, h2, (show OwBlk (upd s 1 W.heap.size 1) (⟨tab, [p0, p1, p2, p3], hh, [t0, t1], [u0, u1], sl, op⟩) v W' from by rw [upd_at]; exact h1)⟩),
  fun f s W c d j l m a => opb rfl rfl (by simp [go_sem]), trivial⟩ ?_
 intro f2 s2 W2 hB2 g2 hg2
 have fB2 := hB2.f fB1
 have z2 := hB2.below.size
 have b2_0 := hB2.b br1_0
 have b2_1 := hB2.b br1_1
 have b2_2 := hB2.b br1_2
 obtain ⟨g107', c110', g108', c111', g109', c112', r2_1, q113', q114', q115', q116', q117', q118'⟩ := hB2.is 1
 have la2_1 := hB2.from' 1 (by decide)
 have lo2_1_o0 := q113'.lim
 have q119' := q113'.low (B' := w.heap.size) (Nat.le_trans fB1.size (la2_1))
 have lo2_1_o1 := q114'.lim
 have q120' := q114'.low (B' := w.heap.size) (Nat.le_trans fB1.size (la2_1))
 have lo2_1_o2 := q115'.lim
 have q121' := q115'.low (B' := w.heap.size) (Nat.le_trans fB1.size (la2_1))
 obtain ⟨r2_2, br2_2⟩ := hB2.is 2
 have lr2_2 := hB2.lr 2 br2_2
 have oo2_1_o0_2 := hB2.off 1 2 (by decide) (by decide) (by decide) lo2_1_o0.1 (fun W h => (OwBlk.lt h r2_1).1) (fun _ _ _ h => lt_of_blk h.2)
 have oo2_1_o1_2 := hB2.off 1 2 (by decide) (by decide) (by decide) lo2_1_o1.1 (fun W h => (OwBlk.lt h r2_1).2.1) (fun _ _ _ h => lt_of_blk h.2)
 have oo2_1_o2_2 := hB2.off 1 2 (by decide) (by decide) (by decide) lo2_1_o2.1 (fun W h => (OwBlk.lt h r2_1).2.2) (fun _ _ _ h => lt_of_blk h.2)
 have k2_2 := kt hg2 2 k1_2
 have k2_3 := kt hg2 3 k1_3
 have k2_4 := kt hg2 4 k1_4
 have k2_5 := kt hg2 5 k1_5
 have k2_6 := kt hg2 6 k1_6
 have k2_10 := kt hg2 10 k1_10
 have k2_19 := kt hg2 19 r2_1
 have k2_11 := kt hg2 11 r2_2
 obtain ⟨W3, hW3⟩ : ∃ W', W' = W2.setRow (s2 2) #[.int .i64 tab, .slice (some ⟨g107', 0, none⟩) (4) (c110'), .int .i64 hh, .slice (some ⟨g108', 0, none⟩) (2) (c111'), .slice (some ⟨g109', 0, none⟩) (2) (c112'), .int .i64 sl, .bool op] := ⟨_, rfl⟩
 refine tail_skip (o := _) rfl ⟨rfl, rfl⟩ (run_seg hW3 (fr_ev k2_11) (fr_ev k2_19) br2_2 rfl rfl rfl rfl) ?_
 obtain ⟨fB3, nb3, ot3, z3⟩ := seg_facts hW3 fB2 br2_2 (by omega)
 clear hW3
 have b3_0 := ot3 _ _ (by omega) b2_0
 have b3_1 := ot3 _ _ (by omega) b2_1
 have b3_2 := ot3 _ _ (by omega) b2_2
 have q122' := q119'.other ot3 (by omega) z3
 have q123' := q120'.other ot3 (by omega) z3
 have q124' := q121'.other ot3 (by omega) z3
 refine wpOps_end ?_
 refine hK2 _ _ ?_
 refine wp_seq_k fun K3 hK3 => ?_
 refine region_dk 4 [(20, 0), (21, 1), (12, 2), (13, 3)] [[], [], [0], [0, 1, 2]] (rel [row 0 0 #[] 3,
   row 1 1 #[.int .i64 0] 3,
   isS fun s => .slice (some ⟨(s 0), 0, none⟩) (0) (0),
   isS fun s => .slice (some ⟨(s 1), 0, none⟩) (1) (1)])
  ⟨row_k, row_k, isS_k fun s s' e => by rw [e 0 (by simp)], isS_k fun s s' e => by rw [e 1 (by simp)], trivial⟩
  ⟨fun f s W c d j l m a => opr rfl rfl (by simp [go_sem]),
  fun f s W c d j l m a => opr rfl rfl (by simp [go_sem]),
  fun f s W c d j l m a => opv rfl rfl (by simp [go_sem, a.e 20 (d 0 rfl).1, upd]) rfl,
  fun f s W c d j l m a => opv rfl rfl (by simp [go_sem, a.e 21 (d 1 rfl).1, upd]) rfl, trivial⟩ ?_
 intro f4 s4 W4 hB4 g4 hg4
 have fB4 := hB4.f fB3
 have z4 := hB4.below.size
 have b4_0 := hB4.b b3_0
 have b4_1 := hB4.b b3_1
 have b4_2 := hB4.b b3_2
 have b4_3 := hB4.b nb3
 have q125' := (q122'.below hB4.below)
 have q126' := (q123'.below hB4.below)
 have q127' := (q124'.below hB4.below)
 obtain ⟨r4_0, br4_0⟩ := hB4.is 0
 have lr4_0 := hB4.lr 0 br4_0
 obtain ⟨r4_1, br4_1⟩ := hB4.is 1
 have lr4_1 := hB4.lr 1 br4_1
 have ne4_0_1 := hB4.nb 0 1
 refine hK3 _ _ ?_
 have k4_2 := kt hg4 2 k2_2
 have k4_3 := kt hg4 3 k2_3
 have k4_4 := kt hg4 4 k2_4
 have k4_5 := kt hg4 5 k2_5
 have k4_6 := kt hg4 6 k2_6
 have k4_10 := kt hg4 10 k2_10
 have k4_11 := kt hg4 11 k2_11
 have k4_12 := kt hg4 12 (hB4.is 2)
 have k4_13 := kt hg4 13 (hB4.is 3)
 refine wp_seq_k fun K4 hK4 => ?_
 refine region_dk 4 [(22, 0), (23, 1), (24, 2), (14, 3)] [[], [0], [0, 1], [0, 1, 2]] (rel [is (.int .i64 4),
   is (.int .i64 5),
   is (.int .i64 1),
   is (.int .i64 1)])
  ⟨is_k, is_k, is_k, is_k, trivial⟩
  ⟨fun f s W c d j l m a => opv rfl rfl (by simp [go_sem, a.e 2 k4_2]) rfl,
  fun f s W c d j l m a => opv rfl rfl (by simp [go_sem, a.e 22 (d 0 rfl), IntWalk.i64_in (5) (by omega)]) rfl,
  fun f s W c d j l m a => opv rfl rfl (by simp [go_sem, a.e 23 (d 1 rfl)]) rfl,
  fun f s W c d j l m a => opv rfl rfl (by simp [go_sem, a.e 24 (d 2 rfl)]) rfl, trivial⟩ ?_
 intro f5 s5 W5 hB5 g5 hg5
 have fB5 := hB5.f fB4
 have z5 := hB5.below.size
 have b5_0 := hB5.b b4_0
 have b5_1 := hB5.b b4_1
 have b5_2 := hB5.b b4_2
 have b5_3 := hB5.b b4_3
 have b5_4 := hB5.b br4_0
 have b5_5 := hB5.b br4_1
 have q128' := (q125'.below hB5.below)
 have q129' := (q126'.below hB5.below)
 have q130' := (q127'.below hB5.below)
 refine hK4 _ _ ?_
 have k5_2 := kt hg5 2 k4_2
 have k5_3 := kt hg5 3 k4_3
 have k5_4 := kt hg5 4 k4_4
 have k5_5 := kt hg5 5 k4_5
 have k5_6 := kt hg5 6 k4_6
 have k5_10 := kt hg5 10 k4_10
 have k5_11 := kt hg5 11 k4_11
 have k5_12 := kt hg5 12 k4_12
 have k5_13 := kt hg5 13 k4_13
 have k5_14 := kt hg5 14 (hB5.is 3)
 refine wp_seq_k fun K5 hK5 => ?_
 refine wp_block ?_
 refine wp_seq_k fun K6 hK6 => ?_
 refine region_dk 3 [(53, 0), (54, 1), (52, 2)] [[], [0], [0, 1]] (rel [is (.int .i64 4),
   is (.bool false),
   is (.bool false)])
  ⟨is_k, is_k, is_k, trivial⟩
  ⟨fun f s W c d j l m a => opv rfl rfl (by simp [go_sem, a.e 2 k5_2]) rfl,
  fun f s W c d j l m a => opv rfl rfl (by simp [go_sem, a.e 53 (d 0 rfl)]) rfl,
  fun f s W c d j l m a => opv rfl rfl (by simp [go_sem, a.e 54 (d 1 rfl)]) rfl, trivial⟩ ?_
 intro f6 s6 W6 hB6 g6 hg6
 have fB6 := hB6.f fB5
 have z6 := hB6.below.size
 have b6_0 := hB6.b b5_0
 have b6_1 := hB6.b b5_1
 have b6_2 := hB6.b b5_2
 have b6_3 := hB6.b b5_3
 have b6_4 := hB6.b b5_4
 have b6_5 := hB6.b b5_5
 have q131' := (q128'.below hB6.below)
 have q132' := (q129'.below hB6.below)
 have q133' := (q130'.below hB6.below)
 refine hK6 _ _ ?_
 have k6_2 := kt hg6 2 k5_2
 have k6_3 := kt hg6 3 k5_3
 have k6_4 := kt hg6 4 k5_4
 have k6_5 := kt hg6 5 k5_5
 have k6_6 := kt hg6 6 k5_6
 have k6_10 := kt hg6 10 k5_10
 have k6_11 := kt hg6 11 k5_11
 have k6_12 := kt hg6 12 k5_12
 have k6_13 := kt hg6 13 k5_13
 have k6_14 := kt hg6 14 k5_14
 have k6_52 := kt hg6 52 (hB6.is 2)
 refine wp_cond_false ((fr_eval rfl).trans k6_52) ?_
 refine wp_seq_k fun K8 hK8 => ?_
 refine region_dk 3 [(63, 0), (64, 1), (62, 2)] [[], [0], [0, 1]] (rel [is (.int .i64 4),
   is (.bool true),
   is (.bool true)])
  ⟨is_k, is_k, is_k, trivial⟩
  ⟨fun f s W c d j l m a => opv rfl rfl (by simp [go_sem, a.e 2 k6_2]) rfl,
  fun f s W c d j l m a => opv rfl rfl (by simp [go_sem, a.e 63 (d 0 rfl)]) rfl,
  fun f s W c d j l m a => opv rfl rfl (by simp [go_sem, a.e 64 (d 1 rfl)]) rfl, trivial⟩ ?_
 intro f7 s7 W7 hB7 g7 hg7
 have fB7 := hB7.f fB6
 have z7 := hB7.below.size
 have b7_0 := hB7.b b6_0
 have b7_1 := hB7.b b6_1
 have b7_2 := hB7.b b6_2
 have b7_3 := hB7.b b6_3
 have b7_4 := hB7.b b6_4
 have b7_5 := hB7.b b6_5
 have q134' := (q131'.below hB7.below)
 have q135' := (q132'.below hB7.below)
 have q136' := (q133'.below hB7.below)
 refine hK8 _ _ ?_
 have k7_2 := kt hg7 2 k6_2
 have k7_3 := kt hg7 3 k6_3
 have k7_4 := kt hg7 4 k6_4
 have k7_5 := kt hg7 5 k6_5
 have k7_6 := kt hg7 6 k6_6
 have k7_10 := kt hg7 10 k6_10
 have k7_11 := kt hg7 11 k6_11
 have k7_12 := kt hg7 12 k6_12
 have k7_13 := kt hg7 13 k6_13
 have k7_14 := kt hg7 14 k6_14
 have k7_62 := kt hg7 62 (hB7.is 2)
 refine wp_cond_true ((fr_eval rfl).trans k7_62) ?_
 refine region_dk 5 [(65, 0), (66, 1), (67, 2), (68, 3), (12, 4)] [[], [0], [], [0, 1, 2], [0, 1, 2, 3]] (rel [is (.pointer (some ⟨(s1 1), 2, none⟩)),
   is (.int .i64 hh),
   is (.int .i64 off),
   fun v s W => NwA (s 3) (rangeL L U) v W,
   fun v s W => NwA (s 3) (rangeL L U) v W])
  ⟨is_k, is_k, is_k, ⟨fun v k W W' hb h => h.below hb, fun v s s' W e h => by have h' : NwA (s 3) (rangeL L U) v W := h; show NwA (s' 3) (rangeL L U) v W; rw [← e 3 (by simp)]; exact h'⟩, ⟨fun v k W W' hb h => h.below hb, fun v s s' W e h => by have h' : NwA (s 3) (rangeL L U) v W := h; show NwA (s' 3) (rangeL L U) v W; rw [← e 3 (by simp)]; exact h'⟩, trivial⟩
  ⟨fun f s W c d j l m a => opv rfl rfl (by simp [go_sem, a.e 6 k7_6]) rfl,
  fun f s W c d j l m a => opv rfl rfl (by simp [go_sem, a.e 65 (d 0 rfl), cb b7_1 c 2]) rfl,
  fun f s W c d j l m a => opv rfl rfl (by simp [go_sem, a.e 4 k7_4]) rfl,
  fun f s W c d j l m a => opDo_call rfl rfl (by simp [go_sem, a.e 66 (d 1 rfl), a.e 67 (d 2 rfl)]) (nwa_as hLG (aroundR_any (hh) off 1 W (by omega) (by omega) (by omega) (by omega) (by decide) (by decide))) (fun e W' h => by obtain ⟨v, e1, h1, h2⟩ := h; exact ⟨v, e1, h2, (show NwA (upd s 3 W.heap.size 3) (rangeL L U) v W' from by rw [upd_at]; exact h1)⟩),
  fun f s W c d j l m a => opv (v := (f 3)) rfl rfl (by simp [go_sem, (a.at' 68 rfl : m.tmps[68]?.getD undef = f 3)] <;> rfl) (d 3 rfl), trivial⟩ ?_
 intro f8 s8 W8 hB8 g8 hg8
 have fB8 := hB8.f fB7
 have z8 := hB8.below.size
 have b8_0 := hB8.b b7_0
 have b8_1 := hB8.b b7_1
 have b8_2 := hB8.b b7_2
 have b8_3 := hB8.b b7_3
 have b8_4 := hB8.b b7_4
 have b8_5 := hB8.b b7_5
 have q141' := (q134'.below hB8.below)
 have q142' := (q135'.below hB8.below)
 have q143' := (q136'.below hB8.below)
 have la8_4_3 := hB8.from' 3 (by decide)
 obtain ⟨a144', c145', r8_4, q146', q147'⟩ := hB8.is 4
 refine wpOps_end ?_
 have k8_2 := kt hg8 2 k7_2
 have k8_3 := kt hg8 3 k7_3
 have k8_5 := kt hg8 5 k7_5
 have k8_10 := kt hg8 10 k7_10
 have k8_11 := kt hg8 11 k7_11
 have k8_13 := kt hg8 13 k7_13
 have k8_14 := kt hg8 14 k7_14
 have k8_12 := kt hg8 12 r8_4
 refine inBlock_normal ?_
 refine hK5 _ _ ?_
 refine wp_seq_k fun K10 hK10 => ?_
 refine wp_seq_k fun K11 hK11 => ?_
 refine region_dk 1 [(15, 0)] [[]] (rel [is (.int .i64 0)])
  ⟨is_k, trivial⟩
  ⟨fun f s W c d j l m a => opv rfl rfl (by simp [go_sem]) rfl, trivial⟩ ?_
 intro f9 s9 W9 hB9 g9 hg9
 have fB9 := hB9.f fB8
 have z9 := hB9.below.size
 have b9_0 := hB9.b b8_0
 have b9_1 := hB9.b b8_1
 have b9_2 := hB9.b b8_2
 have b9_3 := hB9.b b8_3
 have b9_4 := hB9.b b8_4
 have b9_5 := hB9.b b8_5
 have q148' := (q141'.below hB9.below)
 have q149' := (q142'.below hB9.below)
 have q150' := (q143'.below hB9.below)
 have q151' := (q146'.bw hB9)
 refine hK11 _ _ ?_
 have k9_2 := kt hg9 2 k8_2
 have k9_3 := kt hg9 3 k8_3
 have k9_5 := kt hg9 5 k8_5
 have k9_10 := kt hg9 10 k8_10
 have k9_11 := kt hg9 11 k8_11
 have k9_13 := kt hg9 13 k8_13
 have k9_14 := kt hg9 14 k8_14
 have k9_12 := kt hg9 12 k8_12
 have k9_15 := kt hg9 15 (hB9.is 0)
 refine wp_block ?_
 refine wp_loop_n (fun m_ a_ W_ => ∃ g_ : Nat → Value, a_ = fr 139 g_ ∧ (∃ i : Nat, ∃ yh : Int, m_ = (rangeL L U).length - i ∧ g_ 2 = .int .i64 4 ∧ g_ 3 = .int .i64 cal ∧ g_ 5 = .pointer (some ⟨(s1 0), 0, none⟩) ∧ g_ 10 = .pointer (some ⟨(s1 2), 0, none⟩) ∧ g_ 11 = .pointer (some ⟨(s2 2), 0, none⟩) ∧ g_ 13 = .slice (some ⟨(s4 1), 0, none⟩) (1) (1) ∧ g_ 14 = .int .i64 1 ∧ g_ 12 = .slice (a144') ((rangeL L U).length) (c145') ∧ g_ 15 = .int .i64 ((i : Int)) ∧ Below w.heap.size w W_ ∧ W9.heap.size ≤ W_.heap.size ∧ W_.heap[(s1 1)]? = some (.cells #[.int .i64 tab, .slice (a1) (4) (c1), .int .i64 hh, .slice (a2) (2) (c2), .slice (a3) (2) (c3), .int .i64 sl, .bool op] 24 (0, 0)) ∧ W_.heap[(s1 2)]? = some (.cells #[.int .i64 0, .int .i64 0] 26 (0, 0)) ∧ W_.heap[(s4 0)]? = some (.cells #[] 3 (0, 0)) ∧ W_.heap[(s4 1)]? = some (.cells #[.int .i64 0] 3 (0, 0)) ∧ W_.heap[(s1 0)]? = some (.cells #[.int .i64 ((O i).1), .int .i64 ((O i).2)] 26 (0, 0)) ∧ W_.heap[(s2 2)]? = some (.cells #[.int .i64 tab, .slice (some ⟨g107', 0, none⟩) (4) (c110'), .int .i64 yh, .slice (some ⟨g108', 0, none⟩) (2) (c111'), .slice (some ⟨g109', 0, none⟩) (2) (c112'), .int .i64 sl, .bool op] 24 (0, 0)) ∧ OwnI w.heap.size ([p0, p1, p2, p3]) g107' c110' W_ ∧ OwnI w.heap.size ([t0, t1]) g108' c111' W_ ∧ OwnI w.heap.size ([u0, u1]) g109' c112' W_ ∧ Ii W_ a144' (rangeL L U).length c145' (rangeL L U) ∧ (i ≤ (rangeL L U).length))) ⟨_, g9, rfl, 0, hh, rfl, k9_2, k9_3, k9_5, k9_10, k9_11, k9_13, k9_14, k9_12, k9_15.trans (by rfl), fB9, Nat.le_refl _, b9_1, b9_2, b9_4, b9_5, (by rw [hO0]; exact b9_0), b9_3, q148', q149', q150', q151', (by omega)⟩ ?_
 rintro _ _ W_152 ⟨g_152, rfl, i, yh, rfl, k_152_2, k_152_3, k_152_5, k_152_10, k_152_11, k_152_13, k_152_14, k_152_12, k_152_15, fB_152, z_152, b_152_0, b_152_1, b_152_2, b_152_3, m_152_0, m_152_1, q153', q154', q155', q156', lp0⟩
 refine wp_seq_k fun K12 hK12 => ?_
 refine wp_seq_k fun K13 hK13 => ?_
 refine region_dk 4 [(69, 0), (70, 1), (71, 2), (72, 3)] [[], [], [1], [0, 1, 2]] (rel [is (.int .i64 ((i : Int))),
   is (.slice (a144') ((rangeL L U).length) (c145')),
   is (.int .i64 (((rangeL L U).length : Int))),
   is (.bool (decide ((i : Int) < ((rangeL L U).length : Int))))])
  ⟨is_k, is_k, is_k, is_k, trivial⟩
  ⟨fun f s W c d j l m a => opv rfl rfl (by simp [go_sem, a.e 15 k_152_15]) rfl,
  fun f s W c d j l m a => opv rfl rfl (by simp [go_sem, a.e 12 k_152_12]) rfl,
  fun f s W c d j l m a => opv rfl rfl (by simp [go_sem, a.e 70 (d 1 rfl)]) rfl,
  fun f s W c d j l m a => opv rfl rfl (by simp [go_sem, a.e 69 (d 0 rfl), a.e 71 (d 2 rfl)]) rfl, trivial⟩ ?_
 intro f10 s10 W10 hB10 g10 hg10
 have fB10 := hB10.f fB_152
 have z10 := hB10.below.size
 have b10_0 := hB10.b b_152_0
 have b10_1 := hB10.b b_152_1
 have b10_2 := hB10.b b_152_2
 have b10_3 := hB10.b b_152_3
 have b10_4 := hB10.b m_152_0
 have b10_5 := hB10.b m_152_1
 have q157' := (q153'.below hB10.below)
 have q158' := (q154'.below hB10.below)
 have q159' := (q155'.below hB10.below)
 have q160' := (q156'.bw hB10)
 refine hK13 _ _ ?_
 have k10_2 := kt hg10 2 k_152_2
 have k10_3 := kt hg10 3 k_152_3
 have k10_5 := kt hg10 5 k_152_5
 have k10_10 := kt hg10 10 k_152_10
 have k10_11 := kt hg10 11 k_152_11
 have k10_13 := kt hg10 13 k_152_13
 have k10_14 := kt hg10 14 k_152_14
 have k10_12 := kt hg10 12 k_152_12
 have k10_15 := kt hg10 15 k_152_15
 have k10_72 := kt hg10 72 (hB10.is 3)
 refine wp_cond_split (t := decide ((i : Int) < ((rangeL L U).length : Int))) ((fr_eval rfl).trans k10_72) (fun hc14 => ?_) (fun hc14 => ?_)
 ·
  have hc14' := hc14; try simp only [ba] at hc14'
  obtain ⟨bx, ox, hax, hlx, hcx⟩ := q160'.at (by omega)
  have lix := Nat.not_le.2 (show i < (rangeL L U).length by omega)
  have hxb : (rangeL L U).length = (U + 1 - L).toNat := rangeL_len L U
  refine wp_skip ?_
  refine hK12 _ _ ?_
  refine wp_seq_k fun K15 hK15 => ?_
  refine wp_block ?_
  refine wp_seq_k fun K16 hK16 => ?_
  refine region_dk 1 [(16, 0)] [[]] (rel [is (.int .i64 0)])
   ⟨is_k, trivial⟩
   ⟨fun f s W c d j l m a => opv rfl rfl (by simp [go_sem]) rfl, trivial⟩ ?_
  intro f11 s11 W11 hB11 g11 hg11
  have fB11 := hB11.f fB10
  have z11 := hB11.below.size
  have b11_0 := hB11.b b10_0
  have b11_1 := hB11.b b10_1
  have b11_2 := hB11.b b10_2
  have b11_3 := hB11.b b10_3
  have b11_4 := hB11.b b10_4
  have b11_5 := hB11.b b10_5
  have q161' := (q157'.below hB11.below)
  have q162' := (q158'.below hB11.below)
  have q163' := (q159'.below hB11.below)
  have q164' := (q160'.bw hB11)
  refine hK16 _ _ ?_
  have k11_2 := kt hg11 2 k10_2
  have k11_3 := kt hg11 3 k10_3
  have k11_5 := kt hg11 5 k10_5
  have k11_10 := kt hg11 10 k10_10
  have k11_11 := kt hg11 11 k10_11
  have k11_13 := kt hg11 13 k10_13
  have k11_14 := kt hg11 14 k10_14
  have k11_12 := kt hg11 12 k10_12
  have k11_15 := kt hg11 15 k10_15
  have k11_16 := kt hg11 16 (hB11.is 0)
  refine wp_block ?_
  refine wp_loop_rounds 2 ?_
  rw [rounds_succ]
  refine wp_seq_k fun K17 hK17 => ?_
  refine wp_seq_k fun K18 hK18 => ?_
  refine region_dk 4 [(75, 0), (76, 1), (77, 2), (78, 3)] [[], [], [1], [0, 1, 2]] (rel [is (.int .i64 0),
   is (.slice (some ⟨(s4 1), 0, none⟩) (1) (1)),
   is (.int .i64 1),
   is (.bool true)])
   ⟨is_k, is_k, is_k, is_k, trivial⟩
   ⟨fun f s W c d j l m a => opv rfl rfl (by simp [go_sem, a.e 16 k11_16]) rfl,
  fun f s W c d j l m a => opv rfl rfl (by simp [go_sem, a.e 13 k11_13]) rfl,
  fun f s W c d j l m a => opv rfl rfl (by simp [go_sem, a.e 76 (d 1 rfl)]) rfl,
  fun f s W c d j l m a => opv rfl rfl (by simp [go_sem, a.e 75 (d 0 rfl), a.e 77 (d 2 rfl)]) rfl, trivial⟩ ?_
  intro f12 s12 W12 hB12 g12 hg12
  have fB12 := hB12.f fB11
  have z12 := hB12.below.size
  have b12_0 := hB12.b b11_0
  have b12_1 := hB12.b b11_1
  have b12_2 := hB12.b b11_2
  have b12_3 := hB12.b b11_3
  have b12_4 := hB12.b b11_4
  have b12_5 := hB12.b b11_5
  have q165' := (q161'.below hB12.below)
  have q166' := (q162'.below hB12.below)
  have q167' := (q163'.below hB12.below)
  have q168' := (q164'.bw hB12)
  refine hK18 _ _ ?_
  have k12_2 := kt hg12 2 k11_2
  have k12_3 := kt hg12 3 k11_3
  have k12_5 := kt hg12 5 k11_5
  have k12_10 := kt hg12 10 k11_10
  have k12_11 := kt hg12 11 k11_11
  have k12_13 := kt hg12 13 k11_13
  have k12_14 := kt hg12 14 k11_14
  have k12_12 := kt hg12 12 k11_12
  have k12_15 := kt hg12 15 k11_15
  have k12_16 := kt hg12 16 k11_16
  have k12_78 := kt hg12 78 (hB12.is 3)
  refine wp_cond_true ((fr_eval rfl).trans k12_78) ?_
  refine wp_skip ?_
  refine hK17 _ _ ?_
  refine wp_seq_k fun K20 hK20 => ?_
  refine wp_block ?_
  refine wp_seq_k fun K21 hK21 => ?_
  refine region_dk 1 [(17, 0)] [[]] (rel [is (.int .i64 0)])
   ⟨is_k, trivial⟩
   ⟨fun f s W c d j l m a => opv rfl rfl (by simp [go_sem]) rfl, trivial⟩ ?_
  intro f13 s13 W13 hB13 g13 hg13
  have fB13 := hB13.f fB12
  have z13 := hB13.below.size
  have b13_0 := hB13.b b12_0
  have b13_1 := hB13.b b12_1
  have b13_2 := hB13.b b12_2
  have b13_3 := hB13.b b12_3
  have b13_4 := hB13.b b12_4
  have b13_5 := hB13.b b12_5
  have q169' := (q165'.below hB13.below)
  have q170' := (q166'.below hB13.below)
  have q171' := (q167'.below hB13.below)
  have q172' := (q168'.bw hB13)
  refine hK21 _ _ ?_
  have k13_2 := kt hg13 2 k12_2
  have k13_3 := kt hg13 3 k12_3
  have k13_5 := kt hg13 5 k12_5
  have k13_10 := kt hg13 10 k12_10
  have k13_11 := kt hg13 11 k12_11
  have k13_13 := kt hg13 13 k12_13
  have k13_14 := kt hg13 14 k12_14
  have k13_12 := kt hg13 12 k12_12
  have k13_15 := kt hg13 15 k12_15
  have k13_16 := kt hg13 16 k12_16
  have k13_78 := kt hg13 78 k12_78
  have k13_17 := kt hg13 17 (hB13.is 0)
  refine wp_seq_k fun K22 hK22 => ?_
  refine wp_block ?_
  refine wp_seq_k fun K23 hK23 => ?_
  refine region_dk 3 [(104, 0), (105, 1), (103, 2)] [[], [0], [0, 1]] (rel [is (.int .i64 4),
   is (.bool false),
   is (.bool false)])
   ⟨is_k, is_k, is_k, trivial⟩
   ⟨fun f s W c d j l m a => opv rfl rfl (by simp [go_sem, a.e 2 k13_2]) rfl,
  fun f s W c d j l m a => opv rfl rfl (by simp [go_sem, a.e 104 (d 0 rfl)]) rfl,
  fun f s W c d j l m a => opv rfl rfl (by simp [go_sem, a.e 105 (d 1 rfl)]) rfl, trivial⟩ ?_
  intro f14 s14 W14 hB14 g14 hg14
  have fB14 := hB14.f fB13
  have z14 := hB14.below.size
  have b14_0 := hB14.b b13_0
  have b14_1 := hB14.b b13_1
  have b14_2 := hB14.b b13_2
  have b14_3 := hB14.b b13_3
  have b14_4 := hB14.b b13_4
  have b14_5 := hB14.b b13_5
  have q173' := (q169'.below hB14.below)
  have q174' := (q170'.below hB14.below)
  have q175' := (q171'.below hB14.below)
  have q176' := (q172'.bw hB14)
  refine hK23 _ _ ?_
  have k14_2 := kt hg14 2 k13_2
  have k14_3 := kt hg14 3 k13_3
  have k14_5 := kt hg14 5 k13_5
  have k14_10 := kt hg14 10 k13_10
  have k14_11 := kt hg14 11 k13_11
  have k14_13 := kt hg14 13 k13_13
  have k14_14 := kt hg14 14 k13_14
  have k14_12 := kt hg14 12 k13_12
  have k14_15 := kt hg14 15 k13_15
  have k14_16 := kt hg14 16 k13_16
  have k14_78 := kt hg14 78 k13_78
  have k14_17 := kt hg14 17 k13_17
  have k14_103 := kt hg14 103 (hB14.is 2)
  refine wp_cond_false ((fr_eval rfl).trans k14_103) ?_
  refine wp_seq_k fun K25 hK25 => ?_
  refine region_dk 3 [(119, 0), (120, 1), (118, 2)] [[], [0], [0, 1]] (rel [is (.int .i64 4),
   is (.bool true),
   is (.bool true)])
   ⟨is_k, is_k, is_k, trivial⟩
   ⟨fun f s W c d j l m a => opv rfl rfl (by simp [go_sem, a.e 2 k14_2]) rfl,
  fun f s W c d j l m a => opv rfl rfl (by simp [go_sem, a.e 119 (d 0 rfl)]) rfl,
  fun f s W c d j l m a => opv rfl rfl (by simp [go_sem, a.e 120 (d 1 rfl)]) rfl, trivial⟩ ?_
  intro f15 s15 W15 hB15 g15 hg15
  have fB15 := hB15.f fB14
  have z15 := hB15.below.size
  have b15_0 := hB15.b b14_0
  have b15_1 := hB15.b b14_1
  have b15_2 := hB15.b b14_2
  have b15_3 := hB15.b b14_3
  have b15_4 := hB15.b b14_4
  have b15_5 := hB15.b b14_5
  have q177' := (q173'.below hB15.below)
  have q178' := (q174'.below hB15.below)
  have q179' := (q175'.below hB15.below)
  have q180' := (q176'.bw hB15)
  refine hK25 _ _ ?_
  have k15_2 := kt hg15 2 k14_2
  have k15_3 := kt hg15 3 k14_3
  have k15_5 := kt hg15 5 k14_5
  have k15_10 := kt hg15 10 k14_10
  have k15_11 := kt hg15 11 k14_11
  have k15_13 := kt hg15 13 k14_13
  have k15_14 := kt hg15 14 k14_14
  have k15_12 := kt hg15 12 k14_12
  have k15_15 := kt hg15 15 k14_15
  have k15_16 := kt hg15 16 k14_16
  have k15_78 := kt hg15 78 k14_78
  have k15_17 := kt hg15 17 k14_17
  have k15_103 := kt hg15 103 k14_103
  have k15_118 := kt hg15 118 (hB15.is 2)
  refine wp_cond_true ((fr_eval rfl).trans k15_118) ?_
  refine wp_seq_k fun K27 hK27 => ?_
  refine region_dk 5 [(121, 0), (122, 1), (123, 2), (124, 3), (125, 4)] [[], [], [0, 1], [0, 1, 2], [0, 1, 2, 3], [0, 1, 2, 3, 4]] (rel [is (.slice (a144') ((rangeL L U).length) (c145')),
   is (.int .i64 ((i : Int))),
   is (.pointer (some ⟨bx, ox + i, none⟩)),
   is (.int .i64 ((L + (i : Int)))),
   is (.pointer (some ⟨(s2 2), 2, none⟩))])
   ⟨is_k, is_k, is_k, is_k, is_k, trivial⟩
   ⟨fun f s W c d j l m a => opv rfl rfl (by simp [go_sem, a.e 12 k15_12]) rfl,
  fun f s W c d j l m a => opv rfl rfl (by simp [go_sem, a.e 15 k15_15]) rfl,
  fun f s W c d j l m a => opv rfl rfl (by simp [go_sem, a.e 121 (d 0 rfl), a.e 122 (d 1 rfl), hax, lix]) rfl,
  fun f s W c d j l m a => by have u_ := rd_cell (q180'.below c (Nat.le_refl _)) hax (i := i) (by omega); exact opv rfl rfl (by simp [go_sem, a.e 123 (d 2 rfl), u_]) rfl,
  fun f s W c d j l m a => opv rfl rfl (by simp [go_sem, a.e 11 k15_11]) rfl, trivial⟩ ?_
  intro f16 s16 W16 hB16 g16 hg16
  have fB16 := hB16.f fB15
  have z16 := hB16.below.size
  have b16_0 := hB16.b b15_0
  have b16_1 := hB16.b b15_1
  have b16_2 := hB16.b b15_2
  have b16_3 := hB16.b b15_3
  have b16_4 := hB16.b b15_4
  have b16_5 := hB16.b b15_5
  have q181' := (q177'.below hB16.below)
  have q182' := (q178'.below hB16.below)
  have q183' := (q179'.below hB16.below)
  have q184' := (q180'.bw hB16)
  have k16_2 := kt hg16 2 k15_2
  have k16_3 := kt hg16 3 k15_3
  have k16_5 := kt hg16 5 k15_5
  have k16_10 := kt hg16 10 k15_10
  have k16_11 := kt hg16 11 k15_11
  have k16_13 := kt hg16 13 k15_13
  have k16_14 := kt hg16 14 k15_14
  have k16_12 := kt hg16 12 k15_12
  have k16_15 := kt hg16 15 k15_15
  have k16_16 := kt hg16 16 k15_16
  have k16_78 := kt hg16 78 k15_78
  have k16_17 := kt hg16 17 k15_17
  have k16_103 := kt hg16 103 k15_103
  have k16_118 := kt hg16 118 k15_118
  have k16_124 := kt hg16 124 (hB16.is 3)
  have k16_125 := kt hg16 125 (hB16.is 4)
  obtain ⟨W17, hW17⟩ : ∃ W', W' = W16.setRow (s2 2) #[.int .i64 tab, .slice (some ⟨g107', 0, none⟩) (4) (c110'), .int .i64 ((L + (i : Int))), .slice (some ⟨g108', 0, none⟩) (2) (c111'), .slice (some ⟨g109', 0, none⟩) (2) (c112'), .int .i64 sl, .bool op] := ⟨_, rfl⟩
  refine tail_skip (o := _) rfl ⟨rfl, rfl⟩ (run_seg hW17 (fr_ev k16_125) (fr_ev k16_124) b16_5 rfl rfl rfl rfl) ?_
  obtain ⟨fB17, nb17, ot17, z17⟩ := seg_facts hW17 fB16 b16_5 (by omega)
  clear hW17
  have b17_0 := ot17 _ _ (by omega) b16_0
  have b17_1 := ot17 _ _ (by omega) b16_1
  have b17_2 := ot17 _ _ (by omega) b16_2
  have b17_3 := ot17 _ _ (by omega) b16_3
  have b17_4 := ot17 _ _ (by omega) b16_4
  have q185' := q181'.other ot17 (by omega) z17
  have q186' := q182'.other ot17 (by omega) z17
  have q187' := q183'.other ot17 (by omega) z17
  have q188' := (q184'.otherI ot17 (fun g o e hx => by have := q147' g o e; omega) z17)
  refine wpOps_end ?_
  refine hK27 _ _ ?_
  refine region_dk 4 [(126, 0), (127, 1), (128, 2), (17, 3)] [[], [], [0, 1], [0, 1, 2]] (rel [is (.agg #[.int .i64 tab, .slice (some ⟨g107', 0, none⟩) (4) (c110'), .int .i64 ((L + (i : Int))), .slice (some ⟨g108', 0, none⟩) (2) (c111'), .slice (some ⟨g109', 0, none⟩) (2) (c112'), .int .i64 sl, .bool op]),
   is (.int .i64 cal),
   is (.int .i64 (if op = true then 1000 * (L + (i : Int)) - cal else 1000 * (L + (i : Int)) - cal - cal)),
   is (.int .i64 (if op = true then 1000 * (L + (i : Int)) - cal else 1000 * (L + (i : Int)) - cal - cal))])
   ⟨is_k, is_k, is_k, is_k, trivial⟩
   ⟨fun f s W c d j l m a => opv rfl rfl (by simp [go_sem, a.e 11 k16_11, cb nb17 c 0, cb nb17 c 1, cb nb17 c 2, cb nb17 c 3, cb nb17 c 4, cb nb17 c 5, cb nb17 c 6]) rfl,
  fun f s W c d j l m a => opv rfl rfl (by simp [go_sem, a.e 3 k16_3]) rfl,
  fun f s W c d j l m a => opc (args := #[.agg #[.int .i64 tab, .slice (some ⟨g107', 0, none⟩) (4) (c110'), .int .i64 ((L + (i : Int))), .slice (some ⟨g108', 0, none⟩) (2) (c111'), .slice (some ⟨g109', 0, none⟩) (2) (c112'), .int .i64 sl, .bool op], .int .i64 cal]) rfl rfl (by simp [go_sem, a.e 126 (d 0 rfl), a.e 127 (d 1 rfl)]) (heightR_blk (b := ⟨tab, [p0, p1, p2, p3], (L + (i : Int)), [t0, t1], [u0, u1], sl, op⟩) ⟨_, _, _, _, _, _, _, _, _, rfl, (OwnI.iin (n := 4) ((q185'.below c)) rfl), (OwnI.iin (n := 2) ((q186'.below c)) rfl), (OwnI.iin (n := 2) ((q187'.below c)) rfl)⟩ cal (by simp only; omega) (by simp only; omega) (by omega) (by omega)),
  fun f s W c d j l m a => opv rfl rfl (by simp [go_sem, a.e 128 (d 2 rfl)]) rfl, trivial⟩ ?_
  intro f18 s18 W18 hB18 g18 hg18
  have fB18 := hB18.f fB17
  have z18 := hB18.below.size
  have b18_0 := hB18.b b17_0
  have b18_1 := hB18.b b17_1
  have b18_2 := hB18.b b17_2
  have b18_3 := hB18.b b17_3
  have b18_4 := hB18.b b17_4
  have b18_5 := hB18.b nb17
  have q189' := (q185'.below hB18.below)
  have q190' := (q186'.below hB18.below)
  have q191' := (q187'.below hB18.below)
  have q192' := (q188'.bw hB18)
  refine wpOps_end ?_
  have k18_2 := kt hg18 2 k16_2
  have k18_3 := kt hg18 3 k16_3
  have k18_5 := kt hg18 5 k16_5
  have k18_10 := kt hg18 10 k16_10
  have k18_11 := kt hg18 11 k16_11
  have k18_13 := kt hg18 13 k16_13
  have k18_14 := kt hg18 14 k16_14
  have k18_12 := kt hg18 12 k16_12
  have k18_15 := kt hg18 15 k16_15
  have k18_16 := kt hg18 16 k16_16
  have k18_78 := kt hg18 78 k16_78
  have k18_103 := kt hg18 103 k16_103
  have k18_118 := kt hg18 118 k16_118
  have k18_124 := kt hg18 124 k16_124
  have k18_125 := kt hg18 125 k16_125
  have k18_17 := kt hg18 17 (hB18.is 3)
  refine inBlock_normal ?_
  refine hK22 _ _ ?_
  refine region_dk 9 [(129, 0), (130, 1), (131, 2), (132, 3), (133, 4), (134, 5), (135, 6), (136, 7), (137, 8)] [[], [0], [], [0, 1, 2], [], [4], [], [4, 5, 6], [0, 1, 2, 3, 4, 5, 6, 7], [0, 1, 2, 3, 4, 5, 6, 7, 8]] (rel [is (.pointer (some ⟨(s1 0), 0, none⟩)),
   is (.int .i64 ((O i).1)),
   is (.int .i64 (if op = true then 1000 * (L + (i : Int)) - cal else 1000 * (L + (i : Int)) - cal - cal)),
   is (.int .i64 (min ((O i).1) (if op = true then 1000 * (L + (i : Int)) - cal else 1000 * (L + (i : Int)) - cal - cal))),
   is (.pointer (some ⟨(s1 0), 1, none⟩)),
   is (.int .i64 ((O i).2)),
   is (.int .i64 (if op = true then 1000 * (L + (i : Int)) - cal else 1000 * (L + (i : Int)) - cal - cal)),
   is (.int .i64 (max ((O i).2) (if op = true then 1000 * (L + (i : Int)) - cal else 1000 * (L + (i : Int)) - cal - cal))),
   is (.agg #[.int .i64 (min ((O i).1) (if op = true then 1000 * (L + (i : Int)) - cal else 1000 * (L + (i : Int)) - cal - cal)), .int .i64 (max ((O i).2) (if op = true then 1000 * (L + (i : Int)) - cal else 1000 * (L + (i : Int)) - cal - cal))])])
   ⟨is_k, is_k, is_k, is_k, is_k, is_k, is_k, is_k, is_k, trivial⟩
   ⟨fun f s W c d j l m a => opv rfl rfl (by simp [go_sem, a.e 5 k18_5]) rfl,
  fun f s W c d j l m a => opv rfl rfl (by simp [go_sem, a.e 129 (d 0 rfl), cb b18_4 c 0]) rfl,
  fun f s W c d j l m a => opv rfl rfl (by simp [go_sem, a.e 17 k18_17]) rfl,
  fun f s W c d j l m a => opv rfl rfl (by simp [go_sem, a.e 130 (d 1 rfl), a.e 131 (d 2 rfl)]) rfl,
  fun f s W c d j l m a => opv rfl rfl (by simp [go_sem, a.e 5 k18_5]) rfl,
  fun f s W c d j l m a => opv rfl rfl (by simp [go_sem, a.e 133 (d 4 rfl), cb b18_4 c 1]) rfl,
  fun f s W c d j l m a => opv rfl rfl (by simp [go_sem, a.e 17 k18_17]) rfl,
  fun f s W c d j l m a => opv rfl rfl (by simp [go_sem, a.e 134 (d 5 rfl), a.e 135 (d 6 rfl)]) rfl,
  fun f s W c d j l m a => opc rfl rfl (by simp [go_sem, a.e 132 (d 3 rfl), a.e 136 (d 7 rfl)]) (span_any (min ((O i).1) (if op = true then 1000 * (L + (i : Int)) - cal else 1000 * (L + (i : Int)) - cal - cal)) (max ((O i).2) (if op = true then 1000 * (L + (i : Int)) - cal else 1000 * (L + (i : Int)) - cal - cal)) W), trivial⟩ ?_
  intro f19 s19 W19 hB19 g19 hg19
  have fB19 := hB19.f fB18
  have z19 := hB19.below.size
  have b19_0 := hB19.b b18_0
  have b19_1 := hB19.b b18_1
  have b19_2 := hB19.b b18_2
  have b19_3 := hB19.b b18_3
  have b19_4 := hB19.b b18_4
  have b19_5 := hB19.b b18_5
  have q193' := (q189'.below hB19.below)
  have q194' := (q190'.below hB19.below)
  have q195' := (q191'.below hB19.below)
  have q196' := (q192'.bw hB19)
  have k19_2 := kt hg19 2 k18_2
  have k19_3 := kt hg19 3 k18_3
  have k19_5 := kt hg19 5 k18_5
  have k19_10 := kt hg19 10 k18_10
  have k19_11 := kt hg19 11 k18_11
  have k19_13 := kt hg19 13 k18_13
  have k19_14 := kt hg19 14 k18_14
  have k19_12 := kt hg19 12 k18_12
  have k19_15 := kt hg19 15 k18_15
  have k19_16 := kt hg19 16 k18_16
  have k19_78 := kt hg19 78 k18_78
  have k19_103 := kt hg19 103 k18_103
  have k19_118 := kt hg19 118 k18_118
  have k19_124 := kt hg19 124 k18_124
  have k19_125 := kt hg19 125 k18_125
  have k19_17 := kt hg19 17 k18_17
  have k19_137 := kt hg19 137 (hB19.is 8)
  obtain ⟨W20, hW20⟩ : ∃ W', W' = W19.setRow (s1 0) #[.int .i64 (min ((O i).1) (if op = true then 1000 * (L + (i : Int)) - cal else 1000 * (L + (i : Int)) - cal - cal)), .int .i64 (max ((O i).2) (if op = true then 1000 * (L + (i : Int)) - cal else 1000 * (L + (i : Int)) - cal - cal))] := ⟨_, rfl⟩
  refine tail_skip (o := _) rfl ⟨rfl, rfl⟩ (run_seg hW20 (fr_ev k19_5) (fr_ev k19_137) b19_4 rfl rfl rfl rfl) ?_
  obtain ⟨fB20, nb20, ot20, z20⟩ := seg_facts hW20 fB19 b19_4 (by omega)
  clear hW20
  have b20_0 := ot20 _ _ (by omega) b19_0
  have b20_1 := ot20 _ _ (by omega) b19_1
  have b20_2 := ot20 _ _ (by omega) b19_2
  have b20_3 := ot20 _ _ (by omega) b19_3
  have b20_5 := ot20 _ _ (by omega) b19_5
  have q197' := q193'.other ot20 (by omega) z20
  have q198' := q194'.other ot20 (by omega) z20
  have q199' := q195'.other ot20 (by omega) z20
  have q200' := (q196'.otherI ot20 (fun g o e hx => by have := q147' g o e; omega) z20)
  refine wpOps_end ?_
  refine inBlock_normal ?_
  refine hK20 _ _ ?_
  refine region_dk 3 [(79, 0), (80, 1), (16, 2)] [[], [0], [0, 1]] (rel [is (.int .i64 0),
   is (.int .i64 1),
   is (.int .i64 1)])
   ⟨is_k, is_k, is_k, trivial⟩
   ⟨fun f s W c d j l m a => opv rfl rfl (by simp [go_sem, a.e 16 ((l 2 16 rfl rfl).trans k19_16)]) rfl,
  fun f s W c d j l m a => opv rfl rfl (by simp [go_sem, a.e 79 (d 0 rfl), IntWalk.i64_in (1) (by omega)]) rfl,
  fun f s W c d j l m a => opv rfl rfl (by simp [go_sem, a.e 80 (d 1 rfl)]) rfl, trivial⟩ ?_
  intro f21 s21 W21 hB21 g21 hg21
  have fB21 := hB21.f fB20
  have z21 := hB21.below.size
  have b21_0 := hB21.b b20_0
  have b21_1 := hB21.b b20_1
  have b21_2 := hB21.b b20_2
  have b21_3 := hB21.b b20_3
  have b21_4 := hB21.b nb20
  have b21_5 := hB21.b b20_5
  have q201' := (q197'.below hB21.below)
  have q202' := (q198'.below hB21.below)
  have q203' := (q199'.below hB21.below)
  have q204' := (q200'.bw hB21)
  refine wpOps_end ?_
  have k21_2 := kt hg21 2 k19_2
  have k21_3 := kt hg21 3 k19_3
  have k21_5 := kt hg21 5 k19_5
  have k21_10 := kt hg21 10 k19_10
  have k21_11 := kt hg21 11 k19_11
  have k21_13 := kt hg21 13 k19_13
  have k21_14 := kt hg21 14 k19_14
  have k21_12 := kt hg21 12 k19_12
  have k21_15 := kt hg21 15 k19_15
  have k21_78 := kt hg21 78 k19_78
  have k21_103 := kt hg21 103 k19_103
  have k21_118 := kt hg21 118 k19_118
  have k21_124 := kt hg21 124 k19_124
  have k21_125 := kt hg21 125 k19_125
  have k21_17 := kt hg21 17 k19_17
  have k21_137 := kt hg21 137 k19_137
  have k21_16 := kt hg21 16 (hB21.is 2)
  refine then_normal ?_
  rw [rounds_succ]
  refine wp_seq_k fun K28 hK28 => ?_
  refine wp_seq_k fun K29 hK29 => ?_
  refine region_dk 4 [(75, 0), (76, 1), (77, 2), (78, 3)] [[], [], [1], [0, 1, 2]] (rel [is (.int .i64 1),
   is (.slice (some ⟨(s4 1), 0, none⟩) (1) (1)),
   is (.int .i64 1),
   is (.bool false)])
   ⟨is_k, is_k, is_k, is_k, trivial⟩
   ⟨fun f s W c d j l m a => opv rfl rfl (by simp [go_sem, a.e 16 k21_16]) rfl,
  fun f s W c d j l m a => opv rfl rfl (by simp [go_sem, a.e 13 k21_13]) rfl,
  fun f s W c d j l m a => opv rfl rfl (by simp [go_sem, a.e 76 (d 1 rfl)]) rfl,
  fun f s W c d j l m a => opv rfl rfl (by simp [go_sem, a.e 75 (d 0 rfl), a.e 77 (d 2 rfl)]) rfl, trivial⟩ ?_
  intro f22 s22 W22 hB22 g22 hg22
  have fB22 := hB22.f fB21
  have z22 := hB22.below.size
  have b22_0 := hB22.b b21_0
  have b22_1 := hB22.b b21_1
  have b22_2 := hB22.b b21_2
  have b22_3 := hB22.b b21_3
  have b22_4 := hB22.b b21_4
  have b22_5 := hB22.b b21_5
  have q205' := (q201'.below hB22.below)
  have q206' := (q202'.below hB22.below)
  have q207' := (q203'.below hB22.below)
  have q208' := (q204'.bw hB22)
  refine hK29 _ _ ?_
  have k22_2 := kt hg22 2 k21_2
  have k22_3 := kt hg22 3 k21_3
  have k22_5 := kt hg22 5 k21_5
  have k22_10 := kt hg22 10 k21_10
  have k22_11 := kt hg22 11 k21_11
  have k22_13 := kt hg22 13 k21_13
  have k22_14 := kt hg22 14 k21_14
  have k22_12 := kt hg22 12 k21_12
  have k22_15 := kt hg22 15 k21_15
  have k22_103 := kt hg22 103 k21_103
  have k22_118 := kt hg22 118 k21_118
  have k22_124 := kt hg22 124 k21_124
  have k22_125 := kt hg22 125 k21_125
  have k22_17 := kt hg22 17 k21_17
  have k22_137 := kt hg22 137 k21_137
  have k22_16 := kt hg22 16 k21_16
  have k22_78 := kt hg22 78 (hB22.is 3)
  refine wp_cond_false ((fr_eval rfl).trans k22_78) ?_
  refine wp_exit ?_
  refine then_exit ?_
  refine then_exit ?_
  refine inBlock_at ?_
  refine inBlock_normal ?_
  refine hK15 _ _ ?_
  refine region_dk 3 [(73, 0), (74, 1), (15, 2)] [[], [0], [0, 1]] (rel [is (.int .i64 ((i : Int))),
   is (.int .i64 ((i : Int) + 1)),
   is (.int .i64 ((i : Int) + 1))])
   ⟨is_k, is_k, is_k, trivial⟩
   ⟨fun f s W c d j l m a => opv rfl rfl (by simp [go_sem, a.e 15 ((l 2 15 rfl rfl).trans k22_15)]) rfl,
  fun f s W c d j l m a => opv rfl rfl (by simp [go_sem, a.e 73 (d 0 rfl), IntWalk.i64_in ((i : Int) + 1) (by omega)]) rfl,
  fun f s W c d j l m a => opv rfl rfl (by simp [go_sem, a.e 74 (d 1 rfl)]) rfl, trivial⟩ ?_
  intro f23 s23 W23 hB23 g23 hg23
  have fB23 := hB23.f fB22
  have z23 := hB23.below.size
  have b23_0 := hB23.b b22_0
  have b23_1 := hB23.b b22_1
  have b23_2 := hB23.b b22_2
  have b23_3 := hB23.b b22_3
  have b23_4 := hB23.b b22_4
  have b23_5 := hB23.b b22_5
  have q209' := (q205'.below hB23.below)
  have q210' := (q206'.below hB23.below)
  have q211' := (q207'.below hB23.below)
  have q212' := (q208'.bw hB23)
  refine wpOps_end ?_
  have k23_2 := kt hg23 2 k22_2
  have k23_3 := kt hg23 3 k22_3
  have k23_5 := kt hg23 5 k22_5
  have k23_10 := kt hg23 10 k22_10
  have k23_11 := kt hg23 11 k22_11
  have k23_13 := kt hg23 13 k22_13
  have k23_14 := kt hg23 14 k22_14
  have k23_12 := kt hg23 12 k22_12
  have k23_15 := kt hg23 15 (hB23.is 2)
  refine then_normal ?_
  exact ⟨_, by omega, g23, rfl, i + 1, (L + (i : Int)), rfl, k23_2, k23_3, k23_5, k23_10, k23_11, k23_13, k23_14, k23_12, k23_15.trans (by go_num), fB23, (by omega), b23_0, b23_1, b23_2, b23_3, (by rw [hOs]; exact b23_4), b23_5, q209', q210', q211', q212', (by omega)⟩
 ·
  have hc14' := hc14; try simp only [ba] at hc14'
  refine wp_exit ?_
  refine then_exit ?_
  refine then_exit ?_
  refine inBlock_at ?_
  refine hK10 _ _ ?_
  refine wp_seq_k fun K31 hK31 => ?_
  refine region_dk 1 [(138, 0)] [[], [0]] (rel [is (.agg #[.int .i64 ((O i).1), .int .i64 ((O i).2)])])
   ⟨is_k, trivial⟩
   ⟨fun f s W c d j l m a => opv rfl rfl (by simp [go_sem, a.e 5 k10_5, cb b10_4 c 0, cb b10_4 c 1]) rfl, trivial⟩ ?_
  intro f24 s24 W24 hB24 g24 hg24
  have fB24 := hB24.f fB10
  have z24 := hB24.below.size
  have b24_0 := hB24.b b10_0
  have b24_1 := hB24.b b10_1
  have b24_2 := hB24.b b10_2
  have b24_3 := hB24.b b10_3
  have b24_4 := hB24.b b10_4
  have b24_5 := hB24.b b10_5
  have q213' := (q157'.below hB24.below)
  have q214' := (q158'.below hB24.below)
  have q215' := (q159'.below hB24.below)
  have q216' := (q160'.bw hB24)
  have k24_10 := kt hg24 10 k10_10
  have k24_138 := kt hg24 138 (hB24.is 0)
  obtain ⟨W25, hW25⟩ : ∃ W', W' = W24.setRow (s1 2) #[.int .i64 ((O i).1), .int .i64 ((O i).2)] := ⟨_, rfl⟩
  refine tail_skip (o := _) rfl ⟨rfl, rfl⟩ (run_seg hW25 (fr_ev k24_10) (fr_ev k24_138) b24_1 rfl rfl rfl rfl) ?_
  obtain ⟨fB25, nb25, ot25, z25⟩ := seg_facts hW25 fB24 b24_1 (by omega)
  clear hW25
  have b25_0 := ot25 _ _ (by omega) b24_0
  have b25_2 := ot25 _ _ (by omega) b24_2
  have b25_3 := ot25 _ _ (by omega) b24_3
  have b25_4 := ot25 _ _ (by omega) b24_4
  have b25_5 := ot25 _ _ (by omega) b24_5
  have q217' := q213'.other ot25 (by omega) z25
  have q218' := q214'.other ot25 (by omega) z25
  have q219' := q215'.other ot25 (by omega) z25
  have q220' := (q216'.otherI ot25 (fun g o e hx => by have := q147' g o e; omega) z25)
  refine wpOps_end ?_
  refine hK31 _ _ ?_
  refine wp_ret ?_
  refine leave_gen (v := .agg #[.int .i64 ((O i).1), .int .i64 ((O i).2)]) (.inr rfl) (by simp [results, Tryz.results20, go_sem, frv 139 k24_10, cl nb25 0, cl nb25 1]) ?_
  have hi' : i = (U + 1 - L).toNat := by have := rangeL_len L U; omega
  exact ⟨by rw [← hOe, ← hi'], fB25⟩
end Go.Proofs.YthnediamopehfaaGreat
