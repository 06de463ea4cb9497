/- Part of the proof: what the claim leans on. -/
import Derived.Test.YthnediamopehfaaGreatZINS1
set_option linter.unusedSimpArgs false
set_option linter.unusedVariables false
namespace Go.Proofs.YthnediamopehfaaGreat
open Go.RowKit
set_option maxRecDepth 100000 in
set_option maxHeartbeats 4000000 in
theorem widened_a (slo shi : Int) (a1 a2 a3 : Option Addr) (c1 c2 c3 : Nat) (tab p0 p1 p2 p3 hh t0 t1 u0 u1 sl : Int) (op : Bool) (w : World) (h1 : Ii w a1 4 c1 [p0, p1, p2, p3]) (h2 : Ii w a2 2 c2 [t0, t1]) (h3 : Ii w a3 2 c3 [u0, u1]) (cal off : Int) (k : Nat) (kd : Int) (hck : checkErr ⟨tab, [p0, p1, p2, p3], hh, [t0, t1], [u0, u1], sl, op⟩ = 0) (gcl : 1 ≤ cal ∧ cal ≤ 10000) (gof : 0 ≤ off ∧ off ≤ 5) (hk : k < 4) (hkd : ((k : Int) + 1).tmod 2 = kd) :
  Calls Tryz.prog 20 #[.agg #[.int .i64 slo, .int .i64 shi], .agg #[.int .i64 tab, .slice (a1) (4) (c1), .int .i64 hh, .slice (a2) (2) (c2), .slice (a3) (2) (c3), .int .i64 sl, .bool op], .int .i64 ((k : Int)), .int .i64 cal, .int .i64 off] w (fun e w' => e = .returned (.agg #[.int .i64 (widR ⟨tab, [p0, p1, p2, p3], hh, [t0, t1], [u0, u1], sl, op⟩ k cal off (slo, shi)).1, .int .i64 (widR ⟨tab, [p0, p1, p2, p3], hh, [t0, t1], [u0, u1], sl, op⟩ k cal off (slo, shi)).2]) ∧ Below w.heap.size w w') := by
 have hgn := good_nums hck
 simp only [List.getD_cons_zero, List.getD_cons_succ] at hgn
 obtain ⟨-, gt, gs, gh, ⟨gp0, gp1, gp2, gp3⟩, gt0, gt1, gu0, gu1⟩ := hgn
 obtain ⟨q1, o1, hq1, hql1, hqc1⟩ := h1.at (by simp)
 obtain ⟨q2, o2, hq2, hql2, hqc2⟩ := h2.at (by simp)
 obtain ⟨q3, o3, hq3, hql3, hqc3⟩ := h3.at (by simp)
 have gg := get4_in gp0 gp1 gp2 gp3 hk
 have lik : ¬ (4 : Int) ≤ (k : Int) := by omega
 have hk4 : decide ((k : Int) < 4) = true := decide_eq_true (by omega)
 obtain ⟨L, U, O, ⟨gL1, gL2, gL3⟩, hLG, hO0, hOs, hOe⟩ := wid_A hck hk gof.1 cal (slo, shi)
 change aroundL ([p0, p1, p2, p3].getD k 0) off 1 = _ at hLG
 refine calls_fr Tryz.func20 Tryz.ntmps20 rfl rfl fun g hg => ?_
 have k0 : g 0 = .agg #[.int .i64 slo, .int .i64 shi] := hg 0
 have k1 : g 1 = .agg #[.int .i64 tab, .slice (a1) (4) (c1), .int .i64 hh, .slice (a2) (2) (c2), .slice (a3) (2) (c3), .int .i64 sl, .bool op] := hg 1
 have k2 : g 2 = .int .i64 ((k : Int)) := hg 2
 have k3 : g 3 = .int .i64 cal := hg 3
 have k4 : g 4 = .int .i64 off := hg 4
 clear hg
 have fB0 : Below w.heap.size w w := Below.refl _ _
 refine wp_seq_k fun K1 hK1 => ?_
 refine region_dk 3 [(5, 0), (6, 1), (10, 2)] [[], [], []] (rel [bx 0 #[.int .i64 slo, .int .i64 shi] 26,
   bx 1 #[.int .i64 tab, .slice (a1) (4) (c1), .int .i64 hh, .slice (a2) (2) (c2), .slice (a3) (2) (c3), .int .i64 sl, .bool op] 24,
   bx 2 #[.int .i64 0, .int .i64 0] 26])
  ⟨bx_k, bx_k, bx_k, trivial⟩
  ⟨fun f s W d j l m r a => opb rfl rfl (by simp [go_sem, a.e 0 k0]),
  fun f s W d j l m r a => opb rfl rfl (by simp [go_sem, a.e 1 k1]),
  fun f s W d j l m r a => opb rfl rfl (by simp [go_sem]), trivial⟩ ?_
 intro f1 s1 W1 hB1 g1 hg1
 have fB1 := hB1.f fB0
 have z1 := hB1.below.size
 obtain ⟨r1_0, br1_0⟩ := hB1.is 0
 have lr1_0 := hB1.lr 0 br1_0
 obtain ⟨r1_1, br1_1⟩ := hB1.is 1
 have lr1_1 := hB1.lr 1 br1_1
 obtain ⟨r1_2, br1_2⟩ := hB1.is 2
 have lr1_2 := hB1.lr 2 br1_2
 have ne1_0_1 := hB1.nb 0 1
 have ne1_0_2 := hB1.nb 0 2
 have ne1_1_2 := hB1.nb 1 2
 refine hK1 _ _ ?_
 have k1_2 := kt hg1 2 k2
 have k1_3 := kt hg1 3 k3
 have k1_4 := kt hg1 4 k4
 have k1_5 := kt hg1 5 r1_0
 have k1_6 := kt hg1 6 r1_1
 have k1_10 := kt hg1 10 r1_2
 refine wp_seq_k fun K2 hK2 => ?_
 refine region_dk 3 [(18, 0), (19, 1), (11, 2)] [[], [0], [], [0, 1, 2]] (rel [is (.agg #[.int .i64 tab, .slice (a1) (4) (c1), .int .i64 hh, .slice (a2) (2) (c2), .slice (a3) (2) (c3), .int .i64 sl, .bool op]),
   fun v s W => OwBlk (s 1) (⟨tab, [p0, p1, p2, p3], hh, [t0, t1], [u0, u1], sl, op⟩) v W,
   bx 2 #[.int .i64 0, .slice (none) (0) (0), .int .i64 0, .slice (none) (0) (0), .slice (none) (0) (0), .int .i64 0, .bool false] 24])
  ⟨is_k, ⟨fun v k W W' hb h => h.below hb, fun v s s' W e h => by have h' : OwBlk (s 1) (⟨tab, [p0, p1, p2, p3], hh, [t0, t1], [u0, u1], sl, op⟩) v W := h; show OwBlk (s' 1) (⟨tab, [p0, p1, p2, p3], hh, [t0, t1], [u0, u1], sl, op⟩) v W; rw [← e 1 (by simp)]; exact h'⟩, bx_k, trivial⟩
  ⟨fun f s W d j l m r a => opv rfl rfl (by simp [go_sem, a.e 6 k1_6, cb br1_1 d 0, cb br1_1 d 1, cb br1_1 d 2, cb br1_1 d 3, cb br1_1 d 4, cb br1_1 d 5, cb br1_1 d 6]) rfl,
  fun f s W d j l m r a => by have u := below_trans fB1 d; exact opDo_call rfl rfl (by simp [go_sem, a.e 18 (j 0 rfl)]) (own_own a1 a2 a3 c1 c2 c3 tab p0 p1 p2 p3 hh t0 t1 u0 u1 sl op W (h1.below u (Nat.le_refl _)) (h2.below u (Nat.le_refl _)) (h3.below u (Nat.le_refl _))) (fun e W' h => by obtain ⟨v, e1, h1, h2⟩ := h; exact ⟨v, e1, h2, (show OwBlk (upd s 1 W.heap.size 1) (⟨tab, [p0, p1, p2, p3], hh, [t0, t1], [u0, u1], sl, op⟩) v W' from by rw [upd_at]; exact h1)⟩),
  fun f s W d j l m r a => opb rfl rfl (by simp [go_sem]), trivial⟩ ?_
 intro f2 s2 W2 hB2 g2 hg2
 have fB2 := hB2.f fB1
 have z2 := hB2.below.size
 have b2_0 := hB2.b br1_0
 have b2_1 := hB2.b br1_1
 have b2_2 := hB2.b br1_2
 obtain ⟨g1', c4', g2', c5', g3', c6', r2_1, q7', q8', q9', q10', q11', q12'⟩ := hB2.is 1
 have la2_1 := hB2.from' 1 (by decide)
 have lo2_1_o0 := q7'.lim
 have q13' := q7'.low (B' := w.heap.size) (Nat.le_trans fB1.size (la2_1))
 have lo2_1_o1 := q8'.lim
 have q14' := q8'.low (B' := w.heap.size) (Nat.le_trans fB1.size (la2_1))
 have lo2_1_o2 := q9'.lim
 have q15' := q9'.low (B' := w.heap.size) (Nat.le_trans fB1.size (la2_1))
 obtain ⟨r2_2, br2_2⟩ := hB2.is 2
 have lr2_2 := hB2.lr 2 br2_2
 have oo2_1_o0_2 := hB2.off 1 2 (by decide) (by decide) (by decide) lo2_1_o0.1 (fun W h => (OwBlk.lt h r2_1).1) (fun _ _ _ h => lt_of_blk h.2)
 have oo2_1_o1_2 := hB2.off 1 2 (by decide) (by decide) (by decide) lo2_1_o1.1 (fun W h => (OwBlk.lt h r2_1).2.1) (fun _ _ _ h => lt_of_blk h.2)
 have oo2_1_o2_2 := hB2.off 1 2 (by decide) (by decide) (by decide) lo2_1_o2.1 (fun W h => (OwBlk.lt h r2_1).2.2) (fun _ _ _ h => lt_of_blk h.2)
 have k2_2 := kt hg2 2 k1_2
 have k2_3 := kt hg2 3 k1_3
 have k2_4 := kt hg2 4 k1_4
 have k2_5 := kt hg2 5 k1_5
 have k2_6 := kt hg2 6 k1_6
 have k2_10 := kt hg2 10 k1_10
 have k2_19 := kt hg2 19 r2_1
 have k2_11 := kt hg2 11 r2_2
 obtain ⟨W3, hW3⟩ : ∃ W', W' = W2.setRow (s2 2) #[.int .i64 tab, .slice (some ⟨g1', 0, none⟩) (4) (c4'), .int .i64 hh, .slice (some ⟨g2', 0, none⟩) (2) (c5'), .slice (some ⟨g3', 0, none⟩) (2) (c6'), .int .i64 sl, .bool op] := ⟨_, rfl⟩
 refine tail_skip (o := _) rfl ⟨rfl, rfl⟩ (run_seg hW3 (fr_ev k2_11) (fr_ev k2_19) br2_2 rfl rfl rfl rfl) ?_
 obtain ⟨fB3, nb3, ot3, z3⟩ := seg_facts hW3 fB2 br2_2 (by omega)
 clear hW3
 have b3_0 := ot3 _ _ (by omega) b2_0
 have b3_1 := ot3 _ _ (by omega) b2_1
 have b3_2 := ot3 _ _ (by omega) b2_2
 have q16' := q13'.other ot3 (by omega) z3
 have q17' := q14'.other ot3 (by omega) z3
 have q18' := q15'.other ot3 (by omega) z3
 refine wpOps_end ?_
 refine hK2 _ _ ?_
 refine wp_seq_k fun K3 hK3 => ?_
 refine region_dk 4 [(20, 0), (21, 1), (12, 2), (13, 3)] [[], [], [0], [0, 1, 2]] (rel [row 0 0 #[] 3,
   row 1 1 #[.int .i64 0] 3,
   isS fun s => .slice (some ⟨(s 0), 0, none⟩) (0) (0),
   isS fun s => .slice (some ⟨(s 1), 0, none⟩) (1) (1)])
  ⟨row_k, row_k, isS_k fun s s' e => by rw [e 0 (by simp)], isS_k fun s s' e => by rw [e 1 (by simp)], trivial⟩
  ⟨fun f s W d j l m r a => opr rfl rfl (by simp [go_sem]),
  fun f s W d j l m r a => opr rfl rfl (by simp [go_sem]),
  fun f s W d j l m r a => opv rfl rfl (by simp [go_sem, a.e 20 (j 0 rfl).1, upd]) rfl,
  fun f s W d j l m r a => opv rfl rfl (by simp [go_sem, a.e 21 (j 1 rfl).1, upd]) rfl, trivial⟩ ?_
 intro f4 s4 W4 hB4 g4 hg4
 have fB4 := hB4.f fB3
 have z4 := hB4.below.size
 have b4_0 := hB4.b b3_0
 have b4_1 := hB4.b b3_1
 have b4_2 := hB4.b b3_2
 have b4_3 := hB4.b nb3
 have q19' := (q16'.below hB4.below)
 have q20' := (q17'.below hB4.below)
 have q21' := (q18'.below hB4.below)
 obtain ⟨r4_0, br4_0⟩ := hB4.is 0
 have lr4_0 := hB4.lr 0 br4_0
 obtain ⟨r4_1, br4_1⟩ := hB4.is 1
 have lr4_1 := hB4.lr 1 br4_1
 have ne4_0_1 := hB4.nb 0 1
 refine hK3 _ _ ?_
 have k4_2 := kt hg4 2 k2_2
 have k4_3 := kt hg4 3 k2_3
 have k4_4 := kt hg4 4 k2_4
 have k4_5 := kt hg4 5 k2_5
 have k4_6 := kt hg4 6 k2_6
 have k4_10 := kt hg4 10 k2_10
 have k4_11 := kt hg4 11 k2_11
 have k4_12 := kt hg4 12 (hB4.is 2)
 have k4_13 := kt hg4 13 (hB4.is 3)
 refine wp_seq_k fun K4 hK4 => ?_
 refine region_dk 4 [(22, 0), (23, 1), (24, 2), (14, 3)] [[], [0], [0, 1], [0, 1, 2]] (rel [is (.int .i64 ((k : Int))),
   is (.int .i64 ((k : Int) + 1)),
   is (.int .i64 kd),
   is (.int .i64 kd)])
  ⟨is_k, is_k, is_k, is_k, trivial⟩
  ⟨fun f s W d j l m r a => opv rfl rfl (by simp [go_sem, a.e 2 k4_2]) rfl,
  fun f s W d j l m r a => opv rfl rfl (by simp [go_sem, a.e 22 (j 0 rfl), IntWalk.i64_in ((k : Int) + 1) (by omega)]) rfl,
  fun f s W d j l m r a => opv rfl rfl (by simp [go_sem, a.e 23 (j 1 rfl), hkd]) rfl,
  fun f s W d j l m r a => opv rfl rfl (by simp [go_sem, a.e 24 (j 2 rfl)]) rfl, trivial⟩ ?_
 intro f5 s5 W5 hB5 g5 hg5
 have fB5 := hB5.f fB4
 have z5 := hB5.below.size
 have b5_0 := hB5.b b4_0
 have b5_1 := hB5.b b4_1
 have b5_2 := hB5.b b4_2
 have b5_3 := hB5.b b4_3
 have b5_4 := hB5.b br4_0
 have b5_5 := hB5.b br4_1
 have q22' := (q19'.below hB5.below)
 have q23' := (q20'.below hB5.below)
 have q24' := (q21'.below hB5.below)
 refine hK4 _ _ ?_
 have k5_2 := kt hg5 2 k4_2
 have k5_3 := kt hg5 3 k4_3
 have k5_4 := kt hg5 4 k4_4
 have k5_5 := kt hg5 5 k4_5
 have k5_6 := kt hg5 6 k4_6
 have k5_10 := kt hg5 10 k4_10
 have k5_11 := kt hg5 11 k4_11
 have k5_12 := kt hg5 12 k4_12
 have k5_13 := kt hg5 13 k4_13
 have k5_14 := kt hg5 14 (hB5.is 3)
 refine wp_seq_k fun K5 hK5 => ?_
 refine wp_block ?_
 refine wp_seq_k fun K6 hK6 => ?_
 refine region_dk 3 [(53, 0), (54, 1), (52, 2)] [[], [0], [0, 1]] (rel [is (.int .i64 ((k : Int))),
   is (.bool (decide ((k : Int) < 4))),
   is (.bool (decide ((k : Int) < 4)))])
  ⟨is_k, is_k, is_k, trivial⟩
  ⟨fun f s W d j l m r a => opv rfl rfl (by simp [go_sem, a.e 2 k5_2]) rfl,
  fun f s W d j l m r a => opv rfl rfl (by simp [go_sem, a.e 53 (j 0 rfl)]) rfl,
  fun f s W d j l m r a => opv rfl rfl (by simp [go_sem, a.e 54 (j 1 rfl)]) rfl, trivial⟩ ?_
 intro f6 s6 W6 hB6 g6 hg6
 have fB6 := hB6.f fB5
 have z6 := hB6.below.size
 have b6_0 := hB6.b b5_0
 have b6_1 := hB6.b b5_1
 have b6_2 := hB6.b b5_2
 have b6_3 := hB6.b b5_3
 have b6_4 := hB6.b b5_4
 have b6_5 := hB6.b b5_5
 have q25' := (q22'.below hB6.below)
 have q26' := (q23'.below hB6.below)
 have q27' := (q24'.below hB6.below)
 refine hK6 _ _ ?_
 have k6_2 := kt hg6 2 k5_2
 have k6_3 := kt hg6 3 k5_3
 have k6_4 := kt hg6 4 k5_4
 have k6_5 := kt hg6 5 k5_5
 have k6_6 := kt hg6 6 k5_6
 have k6_10 := kt hg6 10 k5_10
 have k6_11 := kt hg6 11 k5_11
 have k6_12 := kt hg6 12 k5_12
 have k6_13 := kt hg6 13 k5_13
 have k6_14 := kt hg6 14 k5_14
 have k6_52 := kt hg6 52 (hB6.is 2)
 have hc7 : (fr 139 g6).eval (.tmp 52) = .bool true := ((fr_eval rfl).trans k6_52).trans (by rw [hk4])
 refine wp_cond_true (hc7) ?_
 refine region_dk 8 [(55, 0), (56, 1), (57, 2), (58, 3), (59, 4), (60, 5), (61, 6), (12, 7)] [[], [0], [], [0, 1, 2], [0, 1, 2, 3], [], [0, 1, 2, 3, 4, 5], [0, 1, 2, 3, 4, 5, 6]] (rel [is (.pointer (some ⟨(s1 1), 1, none⟩)),
   is (.slice (a1) (4) (c1)),
   is (.int .i64 ((k : Int))),
   is (.pointer (some ⟨q1, o1 + k, none⟩)),
   is (.int .i64 ([p0, p1, p2, p3].getD k 0)),
   is (.int .i64 off),
   fun v s W => NwA (s 6) (rangeL L U) v W,
   fun v s W => NwA (s 6) (rangeL L U) v W])
  ⟨is_k, is_k, is_k, is_k, is_k, is_k, ⟨fun v k W W' hb h => h.below hb, fun v s s' W e h => by have h' : NwA (s 6) (rangeL L U) v W := h; show NwA (s' 6) (rangeL L U) v W; rw [← e 6 (by simp)]; exact h'⟩, ⟨fun v k W W' hb h => h.below hb, fun v s s' W e h => by have h' : NwA (s 6) (rangeL L U) v W := h; show NwA (s' 6) (rangeL L U) v W; rw [← e 6 (by simp)]; exact h'⟩, trivial⟩
  ⟨fun f s W d j l m r a => opv rfl rfl (by simp [go_sem, a.e 6 k6_6]) rfl,
  fun f s W d j l m r a => opv rfl rfl (by simp [go_sem, a.e 55 (j 0 rfl), cb b6_1 d 1]) rfl,
  fun f s W d j l m r a => opv rfl rfl (by simp [go_sem, a.e 2 k6_2]) rfl,
  fun f s W d j l m r a => opv rfl rfl (by simp [go_sem, a.e 56 (j 1 rfl), a.e 57 (j 2 rfl), hq1, lik]) rfl,
  fun f s W d j l m r a => by have u := below_trans fB6 d; have u_ : W.cell? ⟨q1, o1 + k, none⟩ = some (.int .i64 ([p0, p1, p2, p3].getD k 0)) := (u.cell (p := ⟨q1, o1 + k, none⟩) hql1).trans (hqc1 k (by simp; omega)); exact opv rfl rfl (by simp [go_sem, a.e 58 (j 3 rfl), u_]) rfl,
  fun f s W d j l m r a => opv rfl rfl (by simp [go_sem, a.e 4 k6_4]) rfl,
  fun f s W d j l m r a => opDo_call rfl rfl (by simp [go_sem, a.e 59 (j 4 rfl), a.e 60 (j 5 rfl)]) (nwa_as hLG (aroundR_any ([p0, p1, p2, p3].getD k 0) off 1 W (by omega) (by omega) (by omega) (by omega) (by decide) (by decide))) (fun e W' h => by obtain ⟨v, e1, h1, h2⟩ := h; exact ⟨v, e1, h2, (show NwA (upd s 6 W.heap.size 6) (rangeL L U) v W' from by rw [upd_at]; exact h1)⟩),
  fun f s W d j l m r a => opv (v := (f 6)) rfl rfl (by simp [go_sem, (a.at' 61 rfl : r.tmps[61]?.getD undef = f 6)] <;> rfl) (j 6 rfl), trivial⟩ ?_
 intro f7 s7 W7 hB7 g7 hg7
 have fB7 := hB7.f fB6
 have z7 := hB7.below.size
 have b7_0 := hB7.b b6_0
 have b7_1 := hB7.b b6_1
 have b7_2 := hB7.b b6_2
 have b7_3 := hB7.b b6_3
 have b7_4 := hB7.b b6_4
 have b7_5 := hB7.b b6_5
 have q32' := (q25'.below hB7.below)
 have q33' := (q26'.below hB7.below)
 have q34' := (q27'.below hB7.below)
 have la7_7_6 := hB7.from' 6 (by decide)
 obtain ⟨a35', c36', r7_7, q37', q38'⟩ := hB7.is 7
 refine wpOps_end ?_
 have k7_2 := kt hg7 2 k6_2
 have k7_3 := kt hg7 3 k6_3
 have k7_5 := kt hg7 5 k6_5
 have k7_10 := kt hg7 10 k6_10
 have k7_11 := kt hg7 11 k6_11
 have k7_13 := kt hg7 13 k6_13
 have k7_14 := kt hg7 14 k6_14
 have k7_12 := kt hg7 12 r7_7
 refine inBlock_normal ?_
 refine hK5 _ _ ?_
 refine wp_seq_k fun K8 hK8 => ?_
 refine wp_seq_k fun K9 hK9 => ?_
 refine region_dk 1 [(15, 0)] [[]] (rel [is (.int .i64 0)])
  ⟨is_k, trivial⟩
  ⟨fun f s W d j l m r a => opv rfl rfl (by simp [go_sem]) rfl, trivial⟩ ?_
 intro f8 s8 W8 hB8 g8 hg8
 have fB8 := hB8.f fB7
 have z8 := hB8.below.size
 have b8_0 := hB8.b b7_0
 have b8_1 := hB8.b b7_1
 have b8_2 := hB8.b b7_2
 have b8_3 := hB8.b b7_3
 have b8_4 := hB8.b b7_4
 have b8_5 := hB8.b b7_5
 have q39' := (q32'.below hB8.below)
 have q40' := (q33'.below hB8.below)
 have q41' := (q34'.below hB8.below)
 have q42' := (q37'.bw hB8)
 refine hK9 _ _ ?_
 have k8_2 := kt hg8 2 k7_2
 have k8_3 := kt hg8 3 k7_3
 have k8_5 := kt hg8 5 k7_5
 have k8_10 := kt hg8 10 k7_10
 have k8_11 := kt hg8 11 k7_11
 have k8_13 := kt hg8 13 k7_13
 have k8_14 := kt hg8 14 k7_14
 have k8_12 := kt hg8 12 k7_12
 have k8_15 := kt hg8 15 (hB8.is 0)
 refine wp_block ?_
 refine wp_loop_n (fun m_ a_ W_ => ∃ g_ : Nat → Value, a_ = fr 139 g_ ∧ (∃ i : Nat, ∃ q : Int, m_ = (rangeL L U).length - i ∧ g_ 2 = .int .i64 ((k : Int)) ∧ g_ 3 = .int .i64 cal ∧ g_ 5 = .pointer (some ⟨(s1 0), 0, none⟩) ∧ g_ 10 = .pointer (some ⟨(s1 2), 0, none⟩) ∧ g_ 11 = .pointer (some ⟨(s2 2), 0, none⟩) ∧ g_ 13 = .slice (some ⟨(s4 1), 0, none⟩) (1) (1) ∧ g_ 14 = .int .i64 kd ∧ g_ 12 = .slice (a35') ((rangeL L U).length) (c36') ∧ g_ 15 = .int .i64 ((i : Int)) ∧ Below w.heap.size w W_ ∧ W8.heap.size ≤ W_.heap.size ∧ W_.heap[(s1 1)]? = some (.cells #[.int .i64 tab, .slice (a1) (4) (c1), .int .i64 hh, .slice (a2) (2) (c2), .slice (a3) (2) (c3), .int .i64 sl, .bool op] 24 (0, 0)) ∧ W_.heap[(s1 2)]? = some (.cells #[.int .i64 0, .int .i64 0] 26 (0, 0)) ∧ W_.heap[(s2 2)]? = some (.cells #[.int .i64 tab, .slice (some ⟨g1', 0, none⟩) (4) (c4'), .int .i64 hh, .slice (some ⟨g2', 0, none⟩) (2) (c5'), .slice (some ⟨g3', 0, none⟩) (2) (c6'), .int .i64 sl, .bool op] 24 (0, 0)) ∧ W_.heap[(s4 0)]? = some (.cells #[] 3 (0, 0)) ∧ W_.heap[(s4 1)]? = some (.cells #[.int .i64 0] 3 (0, 0)) ∧ W_.heap[(s1 0)]? = some (.cells #[.int .i64 ((O i).1), .int .i64 ((O i).2)] 26 (0, 0)) ∧ OwnI w.heap.size ([t0, t1]) g2' c5' W_ ∧ OwnI w.heap.size ([u0, u1]) g3' c6' W_ ∧ Ii W_ a35' (rangeL L U).length c36' (rangeL L U) ∧ OwnI w.heap.size ([p0, p1, p2, p3].set k q) g1' c4' W_ ∧ (i ≤ (rangeL L U).length))) ⟨_, g8, rfl, 0, ([p0, p1, p2, p3].getD k 0), rfl, k8_2, k8_3, k8_5, k8_10, k8_11, k8_13, k8_14, k8_12, k8_15.trans (by rfl), fB8, Nat.le_refl _, b8_1, b8_2, b8_3, b8_4, b8_5, (by rw [hO0]; exact b8_0), q40', q41', q42', (by rw [set_get4 hk]; exact q39'), (by omega)⟩ ?_
 rintro _ _ W_43 ⟨g_43, rfl, i, q, rfl, k_43_2, k_43_3, k_43_5, k_43_10, k_43_11, k_43_13, k_43_14, k_43_12, k_43_15, fB_43, z_43, b_43_0, b_43_1, b_43_2, b_43_3, b_43_4, m_43_0, q44', q45', q46', q47', lp0⟩
 refine wp_seq_k fun K10 hK10 => ?_
 refine wp_seq_k fun K11 hK11 => ?_
 refine region_dk 4 [(69, 0), (70, 1), (71, 2), (72, 3)] [[], [], [1], [0, 1, 2]] (rel [is (.int .i64 ((i : Int))),
   is (.slice (a35') ((rangeL L U).length) (c36')),
   is (.int .i64 (((rangeL L U).length : Int))),
   is (.bool (decide ((i : Int) < ((rangeL L U).length : Int))))])
  ⟨is_k, is_k, is_k, is_k, trivial⟩
  ⟨fun f s W d j l m r a => opv rfl rfl (by simp [go_sem, a.e 15 k_43_15]) rfl,
  fun f s W d j l m r a => opv rfl rfl (by simp [go_sem, a.e 12 k_43_12]) rfl,
  fun f s W d j l m r a => opv rfl rfl (by simp [go_sem, a.e 70 (j 1 rfl)]) rfl,
  fun f s W d j l m r a => opv rfl rfl (by simp [go_sem, a.e 69 (j 0 rfl), a.e 71 (j 2 rfl)]) rfl, trivial⟩ ?_
 intro f9 s9 W9 hB9 g9 hg9
 have fB9 := hB9.f fB_43
 have z9 := hB9.below.size
 have b9_0 := hB9.b b_43_0
 have b9_1 := hB9.b b_43_1
 have b9_2 := hB9.b b_43_2
 have b9_3 := hB9.b b_43_3
 have b9_4 := hB9.b b_43_4
 have b9_5 := hB9.b m_43_0
 have q48' := (q44'.below hB9.below)
 have q49' := (q45'.below hB9.below)
 have q50' := (q46'.bw hB9)
 have q51' := (q47'.below hB9.below)
 refine hK11 _ _ ?_
 have k9_2 := kt hg9 2 k_43_2
 have k9_3 := kt hg9 3 k_43_3
 have k9_5 := kt hg9 5 k_43_5
 have k9_10 := kt hg9 10 k_43_10
 have k9_11 := kt hg9 11 k_43_11
 have k9_13 := kt hg9 13 k_43_13
 have k9_14 := kt hg9 14 k_43_14
 have k9_12 := kt hg9 12 k_43_12
 have k9_15 := kt hg9 15 k_43_15
 have k9_72 := kt hg9 72 (hB9.is 3)
 refine wp_cond_split (t := decide ((i : Int) < ((rangeL L U).length : Int))) ((fr_eval rfl).trans k9_72) (fun hc12 => ?_) (fun hc12 => ?_)
 ·
  have hc12' := hc12; try simp only [ba] at hc12'
  obtain ⟨bx, ox, hax, hlx, hcx⟩ := q50'.at (by omega)
  have lix := Nat.not_le.2 (show i < (rangeL L U).length by omega)
  have hxb : (rangeL L U).length = (U + 1 - L).toNat := rangeL_len L U
  refine wp_skip ?_
  refine hK10 _ _ ?_
  refine wp_seq_k fun K13 hK13 => ?_
  refine wp_block ?_
  refine wp_seq_k fun K14 hK14 => ?_
  refine region_dk 1 [(16, 0)] [[]] (rel [is (.int .i64 0)])
   ⟨is_k, trivial⟩
   ⟨fun f s W d j l m r a => opv rfl rfl (by simp [go_sem]) rfl, trivial⟩ ?_
  intro f10 s10 W10 hB10 g10 hg10
  have fB10 := hB10.f fB9
  have z10 := hB10.below.size
  have b10_0 := hB10.b b9_0
  have b10_1 := hB10.b b9_1
  have b10_2 := hB10.b b9_2
  have b10_3 := hB10.b b9_3
  have b10_4 := hB10.b b9_4
  have b10_5 := hB10.b b9_5
  have q52' := (q48'.below hB10.below)
  have q53' := (q49'.below hB10.below)
  have q54' := (q50'.bw hB10)
  have q55' := (q51'.below hB10.below)
  refine hK14 _ _ ?_
  have k10_2 := kt hg10 2 k9_2
  have k10_3 := kt hg10 3 k9_3
  have k10_5 := kt hg10 5 k9_5
  have k10_10 := kt hg10 10 k9_10
  have k10_11 := kt hg10 11 k9_11
  have k10_13 := kt hg10 13 k9_13
  have k10_14 := kt hg10 14 k9_14
  have k10_12 := kt hg10 12 k9_12
  have k10_15 := kt hg10 15 k9_15
  have k10_16 := kt hg10 16 (hB10.is 0)
  refine wp_block ?_
  refine wp_loop_rounds 2 ?_
  rw [rounds_succ]
  refine wp_seq_k fun K15 hK15 => ?_
  refine wp_seq_k fun K16 hK16 => ?_
  refine region_dk 4 [(75, 0), (76, 1), (77, 2), (78, 3)] [[], [], [1], [0, 1, 2]] (rel [is (.int .i64 0),
   is (.slice (some ⟨(s4 1), 0, none⟩) (1) (1)),
   is (.int .i64 1),
   is (.bool true)])
   ⟨is_k, is_k, is_k, is_k, trivial⟩
   ⟨fun f s W d j l m r a => opv rfl rfl (by simp [go_sem, a.e 16 k10_16]) rfl,
  fun f s W d j l m r a => opv rfl rfl (by simp [go_sem, a.e 13 k10_13]) rfl,
  fun f s W d j l m r a => opv rfl rfl (by simp [go_sem, a.e 76 (j 1 rfl)]) rfl,
  fun f s W d j l m r a => opv rfl rfl (by simp [go_sem, a.e 75 (j 0 rfl), a.e 77 (j 2 rfl)]) rfl, trivial⟩ ?_
  intro f11 s11 W11 hB11 g11 hg11
  have fB11 := hB11.f fB10
  have z11 := hB11.below.size
  have b11_0 := hB11.b b10_0
  have b11_1 := hB11.b b10_1
  have b11_2 := hB11.b b10_2
  have b11_3 := hB11.b b10_3
  have b11_4 := hB11.b b10_4
  have b11_5 := hB11.b b10_5
  have q56' := (q52'.below hB11.below)
  have q57' := (q53'.below hB11.below)
  have q58' := (q54'.bw hB11)
  have q59' := (q55'.below hB11.below)
  refine hK16 _ _ ?_
  have k11_2 := kt hg11 2 k10_2
  have k11_3 := kt hg11 3 k10_3
  have k11_5 := kt hg11 5 k10_5
  have k11_10 := kt hg11 10 k10_10
  have k11_11 := kt hg11 11 k10_11
  have k11_13 := kt hg11 13 k10_13
  have k11_14 := kt hg11 14 k10_14
  have k11_12 := kt hg11 12 k10_12
  have k11_15 := kt hg11 15 k10_15
  have k11_16 := kt hg11 16 k10_16
  have k11_78 := kt hg11 78 (hB11.is 3)
  refine wp_cond_true ((fr_eval rfl).trans k11_78) ?_
  refine wp_skip ?_
  refine hK15 _ _ ?_
  refine wp_seq_k fun K18 hK18 => ?_
  refine wp_block ?_
  refine wp_seq_k fun K19 hK19 => ?_
  refine region_dk 1 [(17, 0)] [[]] (rel [is (.int .i64 0)])
   ⟨is_k, trivial⟩
   ⟨fun f s W d j l m r a => opv rfl rfl (by simp [go_sem]) rfl, trivial⟩ ?_
  intro f12 s12 W12 hB12 g12 hg12
  have fB12 := hB12.f fB11
  have z12 := hB12.below.size
  have b12_0 := hB12.b b11_0
  have b12_1 := hB12.b b11_1
  have b12_2 := hB12.b b11_2
  have b12_3 := hB12.b b11_3
  have b12_4 := hB12.b b11_4
  have b12_5 := hB12.b b11_5
  have q60' := (q56'.below hB12.below)
  have q61' := (q57'.below hB12.below)
  have q62' := (q58'.bw hB12)
  have q63' := (q59'.below hB12.below)
  refine hK19 _ _ ?_
  have k12_2 := kt hg12 2 k11_2
  have k12_3 := kt hg12 3 k11_3
  have k12_5 := kt hg12 5 k11_5
  have k12_10 := kt hg12 10 k11_10
  have k12_11 := kt hg12 11 k11_11
  have k12_13 := kt hg12 13 k11_13
  have k12_14 := kt hg12 14 k11_14
  have k12_12 := kt hg12 12 k11_12
  have k12_15 := kt hg12 15 k11_15
  have k12_16 := kt hg12 16 k11_16
  have k12_78 := kt hg12 78 k11_78
  have k12_17 := kt hg12 17 (hB12.is 0)
  refine wp_seq_k fun K20 hK20 => ?_
  refine wp_block ?_
  refine wp_seq_k fun K21 hK21 => ?_
  refine region_dk 3 [(104, 0), (105, 1), (103, 2)] [[], [0], [0, 1]] (rel [is (.int .i64 ((k : Int))),
   is (.bool (decide ((k : Int) < 4))),
   is (.bool (decide ((k : Int) < 4)))])
   ⟨is_k, is_k, is_k, trivial⟩
   ⟨fun f s W d j l m r a => opv rfl rfl (by simp [go_sem, a.e 2 k12_2]) rfl,
  fun f s W d j l m r a => opv rfl rfl (by simp [go_sem, a.e 104 (j 0 rfl)]) rfl,
  fun f s W d j l m r a => opv rfl rfl (by simp [go_sem, a.e 105 (j 1 rfl)]) rfl, trivial⟩ ?_
  intro f13 s13 W13 hB13 g13 hg13
  have fB13 := hB13.f fB12
  have z13 := hB13.below.size
  have b13_0 := hB13.b b12_0
  have b13_1 := hB13.b b12_1
  have b13_2 := hB13.b b12_2
  have b13_3 := hB13.b b12_3
  have b13_4 := hB13.b b12_4
  have b13_5 := hB13.b b12_5
  have q64' := (q60'.below hB13.below)
  have q65' := (q61'.below hB13.below)
  have q66' := (q62'.bw hB13)
  have q67' := (q63'.below hB13.below)
  refine hK21 _ _ ?_
  have k13_2 := kt hg13 2 k12_2
  have k13_3 := kt hg13 3 k12_3
  have k13_5 := kt hg13 5 k12_5
  have k13_10 := kt hg13 10 k12_10
  have k13_11 := kt hg13 11 k12_11
  have k13_13 := kt hg13 13 k12_13
  have k13_14 := kt hg13 14 k12_14
  have k13_12 := kt hg13 12 k12_12
  have k13_15 := kt hg13 15 k12_15
  have k13_16 := kt hg13 16 k12_16
  have k13_78 := kt hg13 78 k12_78
  have k13_17 := kt hg13 17 k12_17
  have k13_103 := kt hg13 103 (hB13.is 2)
  have hc22 : (fr 139 g13).eval (.tmp 103) = .bool true := ((fr_eval rfl).trans k13_103).trans (by rw [hk4])
  refine wp_cond_true (hc22) ?_
  refine wp_seq_k fun K23 hK23 => ?_
  refine region_dk 8 [(106, 0), (107, 1), (108, 2), (109, 3), (110, 4), (111, 5), (112, 6), (113, 7)] [[], [0], [], [], [], [3, 4], [3, 4, 5], [0, 1, 2, 3, 4, 5, 6], [0, 1, 2, 3, 4, 5, 6, 7]] (rel [is (.pointer (some ⟨(s2 2), 1, none⟩)),
   is (.slice (some ⟨g1', 0, none⟩) (4) (c4')),
   is (.int .i64 ((k : Int))),
   is (.slice (a35') ((rangeL L U).length) (c36')),
   is (.int .i64 ((i : Int))),
   is (.pointer (some ⟨bx, ox + i, none⟩)),
   is (.int .i64 ((L + (i : Int)))),
   is (.pointer (some ⟨g1', k, none⟩))])
   ⟨is_k, is_k, is_k, is_k, is_k, is_k, is_k, is_k, trivial⟩
   ⟨fun f s W d j l m r a => opv rfl rfl (by simp [go_sem, a.e 11 k13_11]) rfl,
  fun f s W d j l m r a => opv rfl rfl (by simp [go_sem, a.e 106 (j 0 rfl), cb b13_2 d 1]) rfl,
  fun f s W d j l m r a => opv rfl rfl (by simp [go_sem, a.e 2 k13_2]) rfl,
  fun f s W d j l m r a => opv rfl rfl (by simp [go_sem, a.e 12 k13_12]) rfl,
  fun f s W d j l m r a => opv rfl rfl (by simp [go_sem, a.e 15 k13_15]) rfl,
  fun f s W d j l m r a => opv rfl rfl (by simp [go_sem, a.e 109 (j 3 rfl), a.e 110 (j 4 rfl), hax, lix]) rfl,
  fun f s W d j l m r a => by have u_ := rd_cell (q66'.below d (Nat.le_refl _)) hax (i := i) (by omega); exact opv rfl rfl (by simp [go_sem, a.e 111 (j 5 rfl), u_]) rfl,
  fun f s W d j l m r a => opv rfl rfl (by simp [go_sem, a.e 107 (j 1 rfl), a.e 108 (j 2 rfl), lik]) rfl, trivial⟩ ?_
  intro f14 s14 W14 hB14 g14 hg14
  have fB14 := hB14.f fB13
  have z14 := hB14.below.size
  have b14_0 := hB14.b b13_0
  have b14_1 := hB14.b b13_1
  have b14_2 := hB14.b b13_2
  have b14_3 := hB14.b b13_3
  have b14_4 := hB14.b b13_4
  have b14_5 := hB14.b b13_5
  have q68' := (q64'.below hB14.below)
  have q69' := (q65'.below hB14.below)
  have q70' := (q66'.bw hB14)
  have q71' := (q67'.below hB14.below)
  have k14_2 := kt hg14 2 k13_2
  have k14_3 := kt hg14 3 k13_3
  have k14_5 := kt hg14 5 k13_5
  have k14_10 := kt hg14 10 k13_10
  have k14_11 := kt hg14 11 k13_11
  have k14_13 := kt hg14 13 k13_13
  have k14_14 := kt hg14 14 k13_14
  have k14_12 := kt hg14 12 k13_12
  have k14_15 := kt hg14 15 k13_15
  have k14_16 := kt hg14 16 k13_16
  have k14_78 := kt hg14 78 k13_78
  have k14_17 := kt hg14 17 k13_17
  have k14_103 := kt hg14 103 k13_103
  have k14_112 := kt hg14 112 (hB14.is 6)
  have k14_113 := kt hg14 113 (hB14.is 7)
  obtain ⟨W15, st15, ow15, ot15, z15, fB15⟩ := storeI_tail (c := c4') (i := k) (x := (L + (i : Int))) ([p0, p1, p2, p3].set k ((L + (i : Int)))) (by simp; omega) (List.set_set ..) fB14 q71'
  refine tail_skip (o := _) rfl ⟨rfl, rfl⟩ (st15 (fr_ev k14_113) (fr_ev k14_112)) ?_
  have b15_0 := ot15 _ _ (by omega) b14_0
  have b15_1 := ot15 _ _ (by omega) b14_1
  have b15_2 := ot15 _ _ (by omega) b14_2
  have b15_3 := ot15 _ _ (by omega) b14_3
  have b15_4 := ot15 _ _ (by omega) b14_4
  have b15_5 := ot15 _ _ (by omega) b14_5
  have q72' := q68'.other ot15 (by omega) z15
  have q73' := q69'.other ot15 (by omega) z15
  have q74' := (q70'.otherI ot15 (fun g o e hx => by have := q38' g o e; omega) z15)
  refine wpOps_end ?_
  refine hK23 _ _ ?_
  refine region_dk 5 [(114, 0), (115, 1), (116, 2), (117, 3), (17, 4)] [[], [], [], [0, 1, 2], [0, 1, 2, 3]] (rel [is (.agg #[.int .i64 tab, .slice (some ⟨g1', 0, none⟩) (4) (c4'), .int .i64 hh, .slice (some ⟨g2', 0, none⟩) (2) (c5'), .slice (some ⟨g3', 0, none⟩) (2) (c6'), .int .i64 sl, .bool op]),
   is (.int .i64 ((k : Int))),
   is (.int .i64 cal),
   is (.int .i64 (1000 * ((L + (i : Int))) - cal)),
   is (.int .i64 (1000 * ((L + (i : Int))) - cal))])
   ⟨is_k, is_k, is_k, is_k, is_k, trivial⟩
   ⟨fun f s W d j l m r a => opv rfl rfl (by simp [go_sem, a.e 11 k14_11, cb b15_2 d 0, cb b15_2 d 1, cb b15_2 d 2, cb b15_2 d 3, cb b15_2 d 4, cb b15_2 d 5, cb b15_2 d 6]) rfl,
  fun f s W d j l m r a => opv rfl rfl (by simp [go_sem, a.e 2 k14_2]) rfl,
  fun f s W d j l m r a => opv rfl rfl (by simp [go_sem, a.e 3 k14_3]) rfl,
  fun f s W d j l m r a => opDo_call (args := #[.agg #[.int .i64 tab, .slice (some ⟨g1', 0, none⟩) (4) (c4'), .int .i64 hh, .slice (some ⟨g2', 0, none⟩) (2) (c5'), .slice (some ⟨g3', 0, none⟩) (2) (c6'), .int .i64 sl, .bool op], .int .i64 ((k : Int)), .int .i64 cal]) rfl rfl (by simp [go_sem, a.e 114 (j 0 rfl), a.e 115 (j 1 rfl), a.e 116 (j 2 rfl)]) (panR_blk (b := ⟨tab, [p0, p1, p2, p3].set k ((L + (i : Int))), hh, [t0, t1], [u0, u1], sl, op⟩) ⟨_, _, _, _, _, _, _, _, _, rfl, (OwnI.iin (n := 4) ((ow15.below d)) (by simp)), (OwnI.iin (n := 2) ((q72'.below d)) rfl), (OwnI.iin (n := 2) ((q73'.below d)) rfl)⟩ k (k : Int) cal rfl (by simp; omega) (by rw [set_at hk]; omega) (by rw [set_at hk]; omega) (by omega) (by omega)) ((fun e W' h => by have h1 := h.1; rw [panR_set hk] at h1; exact ⟨_, h1, h.2, rfl⟩)),
  fun f s W d j l m r a => opv rfl rfl (by simp [go_sem, a.e 117 (j 3 rfl)]) rfl, trivial⟩ ?_
  intro f16 s16 W16 hB16 g16 hg16
  have fB16 := hB16.f fB15
  have z16 := hB16.below.size
  have b16_0 := hB16.b b15_0
  have b16_1 := hB16.b b15_1
  have b16_2 := hB16.b b15_2
  have b16_3 := hB16.b b15_3
  have b16_4 := hB16.b b15_4
  have b16_5 := hB16.b b15_5
  have q75' := (q72'.below hB16.below)
  have q76' := (q73'.below hB16.below)
  have q77' := (q74'.bw hB16)
  have q78' := (ow15.below hB16.below)
  refine wpOps_end ?_
  have k16_2 := kt hg16 2 k14_2
  have k16_3 := kt hg16 3 k14_3
  have k16_5 := kt hg16 5 k14_5
  have k16_10 := kt hg16 10 k14_10
  have k16_11 := kt hg16 11 k14_11
  have k16_13 := kt hg16 13 k14_13
  have k16_14 := kt hg16 14 k14_14
  have k16_12 := kt hg16 12 k14_12
  have k16_15 := kt hg16 15 k14_15
  have k16_16 := kt hg16 16 k14_16
  have k16_78 := kt hg16 78 k14_78
  have k16_103 := kt hg16 103 k14_103
  have k16_112 := kt hg16 112 k14_112
  have k16_113 := kt hg16 113 k14_113
  have k16_17 := kt hg16 17 (hB16.is 4)
  refine inBlock_normal ?_
  refine hK20 _ _ ?_
  refine region_dk 9 [(129, 0), (130, 1), (131, 2), (132, 3), (133, 4), (134, 5), (135, 6), (136, 7), (137, 8)] [[], [0], [], [0, 1, 2], [], [4], [], [4, 5, 6], [0, 1, 2, 3, 4, 5, 6, 7], [0, 1, 2, 3, 4, 5, 6, 7, 8]] (rel [is (.pointer (some ⟨(s1 0), 0, none⟩)),
   is (.int .i64 ((O i).1)),
   is (.int .i64 (1000 * ((L + (i : Int))) - cal)),
   is (.int .i64 (min ((O i).1) (1000 * ((L + (i : Int))) - cal))),
   is (.pointer (some ⟨(s1 0), 1, none⟩)),
   is (.int .i64 ((O i).2)),
   is (.int .i64 (1000 * ((L + (i : Int))) - cal)),
   is (.int .i64 (max ((O i).2) (1000 * ((L + (i : Int))) - cal))),
   is (.agg #[.int .i64 (min ((O i).1) (1000 * ((L + (i : Int))) - cal)), .int .i64 (max ((O i).2) (1000 * ((L + (i : Int))) - cal))])])
   ⟨is_k, is_k, is_k, is_k, is_k, is_k, is_k, is_k, is_k, trivial⟩
   ⟨fun f s W d j l m r a => opv rfl rfl (by simp [go_sem, a.e 5 k16_5]) rfl,
  fun f s W d j l m r a => opv rfl rfl (by simp [go_sem, a.e 129 (j 0 rfl), cb b16_5 d 0]) rfl,
  fun f s W d j l m r a => opv rfl rfl (by simp [go_sem, a.e 17 k16_17]) rfl,
  fun f s W d j l m r a => opv rfl rfl (by simp [go_sem, a.e 130 (j 1 rfl), a.e 131 (j 2 rfl)]) rfl,
  fun f s W d j l m r a => opv rfl rfl (by simp [go_sem, a.e 5 k16_5]) rfl,
  fun f s W d j l m r a => opv rfl rfl (by simp [go_sem, a.e 133 (j 4 rfl), cb b16_5 d 1]) rfl,
  fun f s W d j l m r a => opv rfl rfl (by simp [go_sem, a.e 17 k16_17]) rfl,
  fun f s W d j l m r a => opv rfl rfl (by simp [go_sem, a.e 134 (j 5 rfl), a.e 135 (j 6 rfl)]) rfl,
  fun f s W d j l m r a => opc rfl rfl (by simp [go_sem, a.e 132 (j 3 rfl), a.e 136 (j 7 rfl)]) (span_any (min ((O i).1) (1000 * ((L + (i : Int))) - cal)) (max ((O i).2) (1000 * ((L + (i : Int))) - cal)) W), trivial⟩ ?_
  intro f17 s17 W17 hB17 g17 hg17
  have fB17 := hB17.f fB16
  have z17 := hB17.below.size
  have b17_0 := hB17.b b16_0
  have b17_1 := hB17.b b16_1
  have b17_2 := hB17.b b16_2
  have b17_3 := hB17.b b16_3
  have b17_4 := hB17.b b16_4
  have b17_5 := hB17.b b16_5
  have q79' := (q75'.below hB17.below)
  have q80' := (q76'.below hB17.below)
  have q81' := (q77'.bw hB17)
  have q82' := (q78'.below hB17.below)
  have k17_2 := kt hg17 2 k16_2
  have k17_3 := kt hg17 3 k16_3
  have k17_5 := kt hg17 5 k16_5
  have k17_10 := kt hg17 10 k16_10
  have k17_11 := kt hg17 11 k16_11
  have k17_13 := kt hg17 13 k16_13
  have k17_14 := kt hg17 14 k16_14
  have k17_12 := kt hg17 12 k16_12
  have k17_15 := kt hg17 15 k16_15
  have k17_16 := kt hg17 16 k16_16
  have k17_78 := kt hg17 78 k16_78
  have k17_103 := kt hg17 103 k16_103
  have k17_112 := kt hg17 112 k16_112
  have k17_113 := kt hg17 113 k16_113
  have k17_17 := kt hg17 17 k16_17
  have k17_137 := kt hg17 137 (hB17.is 8)
  obtain ⟨W18, hW18⟩ : ∃ W', W' = W17.setRow (s1 0) #[.int .i64 (min ((O i).1) (1000 * ((L + (i : Int))) - cal)), .int .i64 (max ((O i).2) (1000 * ((L + (i : Int))) - cal))] := ⟨_, rfl⟩
  refine tail_skip (o := _) rfl ⟨rfl, rfl⟩ (run_seg hW18 (fr_ev k17_5) (fr_ev k17_137) b17_5 rfl rfl rfl rfl) ?_
  obtain ⟨fB18, nb18, ot18, z18⟩ := seg_facts hW18 fB17 b17_5 (by omega)
  clear hW18
  have b18_0 := ot18 _ _ (by omega) b17_0
  have b18_1 := ot18 _ _ (by omega) b17_1
  have b18_2 := ot18 _ _ (by omega) b17_2
  have b18_3 := ot18 _ _ (by omega) b17_3
  have b18_4 := ot18 _ _ (by omega) b17_4
  have q83' := q79'.other ot18 (by omega) z18
  have q84' := q80'.other ot18 (by omega) z18
  have q85' := (q81'.otherI ot18 (fun g o e hx => by have := q38' g o e; omega) z18)
  have q86' := q82'.other ot18 (by omega) z18
  refine wpOps_end ?_
  refine inBlock_normal ?_
  refine hK18 _ _ ?_
  refine region_dk 3 [(79, 0), (80, 1), (16, 2)] [[], [0], [0, 1]] (rel [is (.int .i64 0),
   is (.int .i64 1),
   is (.int .i64 1)])
   ⟨is_k, is_k, is_k, trivial⟩
   ⟨fun f s W d j l m r a => opv rfl rfl (by simp [go_sem, a.e 16 ((m 2 16 rfl rfl).trans k17_16)]) rfl,
  fun f s W d j l m r a => opv rfl rfl (by simp [go_sem, a.e 79 (j 0 rfl), IntWalk.i64_in (1) (by omega)]) rfl,
  fun f s W d j l m r a => opv rfl rfl (by simp [go_sem, a.e 80 (j 1 rfl)]) rfl, trivial⟩ ?_
  intro f19 s19 W19 hB19 g19 hg19
  have fB19 := hB19.f fB18
  have z19 := hB19.below.size
  have b19_0 := hB19.b b18_0
  have b19_1 := hB19.b b18_1
  have b19_2 := hB19.b b18_2
  have b19_3 := hB19.b b18_3
  have b19_4 := hB19.b b18_4
  have b19_5 := hB19.b nb18
  have q87' := (q83'.below hB19.below)
  have q88' := (q84'.below hB19.below)
  have q89' := (q85'.bw hB19)
  have q90' := (q86'.below hB19.below)
  refine wpOps_end ?_
  have k19_2 := kt hg19 2 k17_2
  have k19_3 := kt hg19 3 k17_3
  have k19_5 := kt hg19 5 k17_5
  have k19_10 := kt hg19 10 k17_10
  have k19_11 := kt hg19 11 k17_11
  have k19_13 := kt hg19 13 k17_13
  have k19_14 := kt hg19 14 k17_14
  have k19_12 := kt hg19 12 k17_12
  have k19_15 := kt hg19 15 k17_15
  have k19_78 := kt hg19 78 k17_78
  have k19_103 := kt hg19 103 k17_103
  have k19_112 := kt hg19 112 k17_112
  have k19_113 := kt hg19 113 k17_113
  have k19_17 := kt hg19 17 k17_17
  have k19_137 := kt hg19 137 k17_137
  have k19_16 := kt hg19 16 (hB19.is 2)
  refine then_normal ?_
  rw [rounds_succ]
  refine wp_seq_k fun K24 hK24 => ?_
  refine wp_seq_k fun K25 hK25 => ?_
  refine region_dk 4 [(75, 0), (76, 1), (77, 2), (78, 3)] [[], [], [1], [0, 1, 2]] (rel [is (.int .i64 1),
   is (.slice (some ⟨(s4 1), 0, none⟩) (1) (1)),
   is (.int .i64 1),
   is (.bool false)])
   ⟨is_k, is_k, is_k, is_k, trivial⟩
   ⟨fun f s W d j l m r a => opv rfl rfl (by simp [go_sem, a.e 16 k19_16]) rfl,
  fun f s W d j l m r a => opv rfl rfl (by simp [go_sem, a.e 13 k19_13]) rfl,
  fun f s W d j l m r a => opv rfl rfl (by simp [go_sem, a.e 76 (j 1 rfl)]) rfl,
  fun f s W d j l m r a => opv rfl rfl (by simp [go_sem, a.e 75 (j 0 rfl), a.e 77 (j 2 rfl)]) rfl, trivial⟩ ?_
  intro f20 s20 W20 hB20 g20 hg20
  have fB20 := hB20.f fB19
  have z20 := hB20.below.size
  have b20_0 := hB20.b b19_0
  have b20_1 := hB20.b b19_1
  have b20_2 := hB20.b b19_2
  have b20_3 := hB20.b b19_3
  have b20_4 := hB20.b b19_4
  have b20_5 := hB20.b b19_5
  have q91' := (q87'.below hB20.below)
  have q92' := (q88'.below hB20.below)
  have q93' := (q89'.bw hB20)
  have q94' := (q90'.below hB20.below)
  refine hK25 _ _ ?_
  have k20_2 := kt hg20 2 k19_2
  have k20_3 := kt hg20 3 k19_3
  have k20_5 := kt hg20 5 k19_5
  have k20_10 := kt hg20 10 k19_10
  have k20_11 := kt hg20 11 k19_11
  have k20_13 := kt hg20 13 k19_13
  have k20_14 := kt hg20 14 k19_14
  have k20_12 := kt hg20 12 k19_12
  have k20_15 := kt hg20 15 k19_15
  have k20_103 := kt hg20 103 k19_103
  have k20_112 := kt hg20 112 k19_112
  have k20_113 := kt hg20 113 k19_113
  have k20_17 := kt hg20 17 k19_17
  have k20_137 := kt hg20 137 k19_137
  have k20_16 := kt hg20 16 k19_16
  have k20_78 := kt hg20 78 (hB20.is 3)
  refine wp_cond_false ((fr_eval rfl).trans k20_78) ?_
  refine wp_exit ?_
  refine then_exit ?_
  refine then_exit ?_
  refine inBlock_at ?_
  refine inBlock_normal ?_
  refine hK13 _ _ ?_
  refine region_dk 3 [(73, 0), (74, 1), (15, 2)] [[], [0], [0, 1]] (rel [is (.int .i64 ((i : Int))),
   is (.int .i64 ((i : Int) + 1)),
   is (.int .i64 ((i : Int) + 1))])
   ⟨is_k, is_k, is_k, trivial⟩
   ⟨fun f s W d j l m r a => opv rfl rfl (by simp [go_sem, a.e 15 ((m 2 15 rfl rfl).trans k20_15)]) rfl,
  fun f s W d j l m r a => opv rfl rfl (by simp [go_sem, a.e 73 (j 0 rfl), IntWalk.i64_in ((i : Int) + 1) (by omega)]) rfl,
  fun f s W d j l m r a => opv rfl rfl (by simp [go_sem, a.e 74 (j 1 rfl)]) rfl, trivial⟩ ?_
  intro f21 s21 W21 hB21 g21 hg21
  have fB21 := hB21.f fB20
  have z21 := hB21.below.size
  have b21_0 := hB21.b b20_0
  have b21_1 := hB21.b b20_1
  have b21_2 := hB21.b b20_2
  have b21_3 := hB21.b b20_3
  have b21_4 := hB21.b b20_4
  have b21_5 := hB21.b b20_5
  have q95' := (q91'.below hB21.below)
  have q96' := (q92'.below hB21.below)
  have q97' := (q93'.bw hB21)
  have q98' := (q94'.below hB21.below)
  refine wpOps_end ?_
  have k21_2 := kt hg21 2 k20_2
  have k21_3 := kt hg21 3 k20_3
  have k21_5 := kt hg21 5 k20_5
  have k21_10 := kt hg21 10 k20_10
  have k21_11 := kt hg21 11 k20_11
  have k21_13 := kt hg21 13 k20_13
  have k21_14 := kt hg21 14 k20_14
  have k21_12 := kt hg21 12 k20_12
  have k21_15 := kt hg21 15 (hB21.is 2)
  refine then_normal ?_
  exact ⟨_, by omega, g21, rfl, i + 1, (L + (i : Int)), rfl, k21_2, k21_3, k21_5, k21_10, k21_11, k21_13, k21_14, k21_12, k21_15.trans (by go_num), fB21, (by omega), b21_0, b21_1, b21_2, b21_3, b21_4, (by rw [hOs]; exact b21_5), q95', q96', q97', q98', (by omega)⟩
 ·
  have hc12' := hc12; try simp only [ba] at hc12'
  refine wp_exit ?_
  refine then_exit ?_
  refine then_exit ?_
  refine inBlock_at ?_
  refine hK8 _ _ ?_
  refine wp_seq_k fun K27 hK27 => ?_
  refine region_dk 1 [(138, 0)] [[], [0]] (rel [is (.agg #[.int .i64 ((O i).1), .int .i64 ((O i).2)])])
   ⟨is_k, trivial⟩
   ⟨fun f s W d j l m r a => opv rfl rfl (by simp [go_sem, a.e 5 k9_5, cb b9_5 d 0, cb b9_5 d 1]) rfl, trivial⟩ ?_
  intro f22 s22 W22 hB22 g22 hg22
  have fB22 := hB22.f fB9
  have z22 := hB22.below.size
  have b22_0 := hB22.b b9_0
  have b22_1 := hB22.b b9_1
  have b22_2 := hB22.b b9_2
  have b22_3 := hB22.b b9_3
  have b22_4 := hB22.b b9_4
  have b22_5 := hB22.b b9_5
  have q99' := (q48'.below hB22.below)
  have q100' := (q49'.below hB22.below)
  have q101' := (q50'.bw hB22)
  have q102' := (q51'.below hB22.below)
  have k22_10 := kt hg22 10 k9_10
  have k22_138 := kt hg22 138 (hB22.is 0)
  obtain ⟨W23, hW23⟩ : ∃ W', W' = W22.setRow (s1 2) #[.int .i64 ((O i).1), .int .i64 ((O i).2)] := ⟨_, rfl⟩
  refine tail_skip (o := _) rfl ⟨rfl, rfl⟩ (run_seg hW23 (fr_ev k22_10) (fr_ev k22_138) b22_1 rfl rfl rfl rfl) ?_
  obtain ⟨fB23, nb23, ot23, z23⟩ := seg_facts hW23 fB22 b22_1 (by omega)
  clear hW23
  have b23_0 := ot23 _ _ (by omega) b22_0
  have b23_2 := ot23 _ _ (by omega) b22_2
  have b23_3 := ot23 _ _ (by omega) b22_3
  have b23_4 := ot23 _ _ (by omega) b22_4
  have b23_5 := ot23 _ _ (by omega) b22_5
  have q103' := q99'.other ot23 (by omega) z23
  have q104' := q100'.other ot23 (by omega) z23
  have q105' := (q101'.otherI ot23 (fun g o e hx => by have := q38' g o e; omega) z23)
  have q106' := q102'.other ot23 (by omega) z23
  refine wpOps_end ?_
  refine hK27 _ _ ?_
  refine wp_ret ?_
  refine leave_gen (v := .agg #[.int .i64 ((O i).1), .int .i64 ((O i).2)]) (.inr rfl) (by simp [results, Tryz.results20, go_sem, frv 139 k22_10, cl nb23 0, cl nb23 1]) ?_
  have hi' : i = (U + 1 - L).toNat := by have := rangeL_len L U; omega
  exact ⟨by rw [← hOe, ← hi'], fB23⟩
end Go.Proofs.YthnediamopehfaaGreat
