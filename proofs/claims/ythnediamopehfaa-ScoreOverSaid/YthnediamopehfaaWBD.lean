/- Part of the proof: what the claim leans on. -/
import Derived.Test.YthnediamopehfaaWAL
import Derived.Test.YthnediamopehfaaWAO
import Derived.Test.YthnediamopehfaaWBB
import Derived.Test.YthnediamopehfaaWBC
import Derived.Test.YthnediamopehfaaWAP
import Derived.Test.YthnediamopehfaaWAF
import Derived.Test.YthnediamopehfaaWAB
import Derived.Deep.MidRow
set_option linter.unusedSimpArgs false
set_option linter.unusedVariables false
namespace Go.Proofs.Ythnediamopehfaa
open Go.RowKit
set_option maxRecDepth 100000 in
set_option maxHeartbeats 2000000 in
theorem copy_own (a1 a2 a3 : Option Addr) (c1 c2 c3 : Nat) (tab p0 p1 p2 p3 hh t0 t1 u0 u1 sl : Int) (op : Bool) (w : World) (h1 : Ii w a1 4 c1 [p0, p1, p2, p3]) (h2 : Ii w a2 2 c2 [t0, t1]) (h3 : Ii w a3 2 c3 [u0, u1]) :
  Calls Try.prog 35 #[.agg #[.int .i64 tab, .slice (a1) (4) (c1), .int .i64 hh, .slice (a2) (2) (c2), .slice (a3) (2) (c3), .int .i64 sl, .bool op]] w (OwBlkP ⟨tab, [p0, p1, p2, p3], hh, [t0, t1], [u0, u1], sl, op⟩ w) := by
 refine calls_fr Try.func35 Try.ntmps35 rfl rfl fun g hg => ?_
 have k0 : g 0 = .agg #[.int .i64 tab, .slice (a1) (4) (c1), .int .i64 hh, .slice (a2) (2) (c2), .slice (a3) (2) (c3), .int .i64 sl, .bool op] := hg 0
 clear hg
 have fB0 : Below w.heap.size w w := Below.refl _ _
 refine wp_seq_k fun K1 hK1 => ?_
 refine region_dk 2 [(1, 0), (2, 1)] [[], []] (rel [bx 0 #[.int .i64 tab, .slice (a1) (4) (c1), .int .i64 hh, .slice (a2) (2) (c2), .slice (a3) (2) (c3), .int .i64 sl, .bool op] 24,
   bx 1 #[.int .i64 0, .slice (none) (0) (0), .int .i64 0, .slice (none) (0) (0), .slice (none) (0) (0), .int .i64 0, .bool false] 24])
  ⟨bx_k, bx_k, trivial⟩
  ⟨fun f s W c d i j l a => opb rfl rfl (by simp [go_sem, a.e 0 k0]),
  fun f s W c d i j l a => opb rfl rfl (by simp [go_sem]), trivial⟩ ?_
 intro f1 s1 W1 hB1 g1 hg1
 have fB1 := hB1.f fB0
 have z1 := hB1.below.size
 obtain ⟨r1_0, br1_0⟩ := hB1.is 0
 have lr1_0 := hB1.lr 0 br1_0
 obtain ⟨r1_1, br1_1⟩ := hB1.is 1
 have lr1_1 := hB1.lr 1 br1_1
 have ne1_0_1 := hB1.nb 0 1
 refine hK1 _ _ ?_
 have k1_1 := kt hg1 1 r1_0
 have k1_2 := kt hg1 2 r1_1
 refine wp_seq_k fun K2 hK2 => ?_
 refine region_dk 13 [(3, 0), (4, 1), (5, 2), (6, 3), (7, 4), (8, 5), (9, 6), (10, 7), (11, 8), (12, 9), (13, 10), (14, 11), (15, 12), (16, 14), (17, 16)] [[], [], [1], [0, 1, 2], [], [], [5], [0, 1, 2, 3, 4, 5, 6], [], [], [9], [0, 1, 2, 3, 4, 5, 6, 7, 8, 9, 10], [0, 1, 2, 3, 5, 6, 9, 10], [0, 1, 2, 3, 4, 5, 6, 7, 8, 9, 10, 11, 12], [0, 1, 2, 3, 4, 5, 6, 7, 8, 9, 10, 11, 12, 13], [0, 1, 2, 3, 4, 5, 6, 7, 8, 9, 10, 11, 12, 13, 14], [0, 1, 2, 3, 4, 5, 6, 7, 8, 9, 10, 11, 12, 13, 14, 15], [0, 1, 2, 3, 4, 5, 6, 7, 8, 9, 10, 11, 12, 13, 14, 15, 16]] (rel [row 0 0 #[] 3,
   is (.pointer (some ⟨(s1 0), 1, none⟩)),
   is (.slice (a1) (4) (c1)),
   fun v s W => OwI (s 3) ([p0, p1, p2, p3]) 4 v W,
   row 4 0 #[] 3,
   is (.pointer (some ⟨(s1 0), 3, none⟩)),
   is (.slice (a2) (2) (c2)),
   fun v s W => OwI (s 7) ([t0, t1]) 2 v W,
   row 8 0 #[] 3,
   is (.pointer (some ⟨(s1 0), 4, none⟩)),
   is (.slice (a3) (2) (c3)),
   fun v s W => OwI (s 11) ([u0, u1]) 2 v W,
   is (.pointer (some ⟨(s1 0), 1, none⟩))])
  ⟨row_k, is_k, is_k, ⟨fun v k W W' hb h => h.below hb, fun v s s' W e h => by have h' : OwI (s 3) ([p0, p1, p2, p3]) 4 v W := h; show OwI (s' 3) ([p0, p1, p2, p3]) 4 v W; rw [← e 3 (by simp)]; exact h'⟩, row_k, is_k, is_k, ⟨fun v k W W' hb h => h.below hb, fun v s s' W e h => by have h' : OwI (s 7) ([t0, t1]) 2 v W := h; show OwI (s' 7) ([t0, t1]) 2 v W; rw [← e 7 (by simp)]; exact h'⟩, row_k, is_k, is_k, ⟨fun v k W W' hb h => h.below hb, fun v s s' W e h => by have h' : OwI (s 11) ([u0, u1]) 2 v W := h; show OwI (s' 11) ([u0, u1]) 2 v W; rw [← e 11 (by simp)]; exact h'⟩, is_k, trivial⟩
  ⟨fun f s W c d i j l a => opr rfl rfl (by simp [go_sem]),
  fun f s W c d i j l a => opv rfl rfl (by simp [go_sem, a.e 1 k1_1]) rfl,
  fun f s W c d i j l a => opv rfl rfl (by simp [go_sem, a.e 4 (d 1 rfl), cb br1_0 c 1]) rfl,
  fun f s W c d i j l a => by have m := below_trans fB1 c; obtain ⟨v_, W_, r_, b_, i_⟩ := cloneO_run 22 W (s 0) (a1) (c1) ([p0, p1, p2, p3]) 4 ((h1.below m (Nat.le_refl _))) ((by decide)) ((by decide)) (d 0 rfl).2; exact opDo_value rfl rfl (run_appendOp (a.v 3 (d 0 rfl).1) (a.v 5 (d 2 rfl)) r_) b_ (show OwI (upd s 3 W.heap.size 3) ([p0, p1, p2, p3]) 4 v_ W_ from by rw [upd_at]; exact i_),
  fun f s W c d i j l a => opr rfl rfl (by simp [go_sem]),
  fun f s W c d i j l a => opv rfl rfl (by simp [go_sem, a.e 1 k1_1]) rfl,
  fun f s W c d i j l a => opv rfl rfl (by simp [go_sem, a.e 8 (d 5 rfl), cb br1_0 c 3]) rfl,
  fun f s W c d i j l a => by have m := below_trans fB1 c; obtain ⟨v_, W_, r_, b_, i_⟩ := cloneO_run 22 W (s 4) (a2) (c2) ([t0, t1]) 2 ((h2.below m (Nat.le_refl _))) ((by decide)) ((by decide)) (d 4 rfl).2; exact opDo_value rfl rfl (run_appendOp (a.v 7 (d 4 rfl).1) (a.v 9 (d 6 rfl)) r_) b_ (show OwI (upd s 7 W.heap.size 7) ([t0, t1]) 2 v_ W_ from by rw [upd_at]; exact i_),
  fun f s W c d i j l a => opr rfl rfl (by simp [go_sem]),
  fun f s W c d i j l a => opv rfl rfl (by simp [go_sem, a.e 1 k1_1]) rfl,
  fun f s W c d i j l a => opv rfl rfl (by simp [go_sem, a.e 12 (d 9 rfl), cb br1_0 c 4]) rfl,
  fun f s W c d i j l a => by have m := below_trans fB1 c; obtain ⟨v_, W_, r_, b_, i_⟩ := cloneO_run 22 W (s 8) (a3) (c3) ([u0, u1]) 2 ((h3.below m (Nat.le_refl _))) ((by decide)) ((by decide)) (d 8 rfl).2; exact opDo_value rfl rfl (run_appendOp (a.v 11 (d 8 rfl).1) (a.v 13 (d 10 rfl)) r_) b_ (show OwI (upd s 11 W.heap.size 11) ([u0, u1]) 2 v_ W_ from by rw [upd_at]; exact i_),
  fun f s W c d i j l a => opv rfl rfl (by simp [go_sem, a.e 1 k1_1]) rfl, trivial⟩ ?_
 intro f2 s2 W2 hB2 g2 hg2
 have fB2 := hB2.f fB1
 have z2 := hB2.below.size
 have b2_0 := hB2.b br1_0
 have b2_1 := hB2.b br1_1
 obtain ⟨r2_0, br2_0⟩ := hB2.is 0
 have lr2_0 := hB2.lr 0 br2_0
 obtain ⟨g1', c2', r2_3, q3'⟩ := hB2.is 3
 have la2_3 := hB2.from' 3 (by decide)
 have lo2_3_o := q3'.lim
 have q4' := q3'.low (B' := w.heap.size) (Nat.le_trans fB1.size (la2_3))
 obtain ⟨r2_4, br2_4⟩ := hB2.is 4
 have lr2_4 := hB2.lr 4 br2_4
 obtain ⟨g5', c6', r2_7, q7'⟩ := hB2.is 7
 have la2_7 := hB2.from' 7 (by decide)
 have lo2_7_o := q7'.lim
 have q8' := q7'.low (B' := w.heap.size) (Nat.le_trans fB1.size (la2_7))
 obtain ⟨r2_8, br2_8⟩ := hB2.is 8
 have lr2_8 := hB2.lr 8 br2_8
 obtain ⟨g9', c10', r2_11, q11'⟩ := hB2.is 11
 have la2_11 := hB2.from' 11 (by decide)
 have lo2_11_o := q11'.lim
 have q12' := q11'.low (B' := w.heap.size) (Nat.le_trans fB1.size (la2_11))
 have oo2_3_o_0 := hB2.off 3 0 (by decide) (by decide) (by decide) lo2_3_o.1 (fun W h => OwI.lt h r2_3) (fun _ _ _ h => lt_of_blk h.2)
 have oo2_3_o_4 := hB2.off 3 4 (by decide) (by decide) (by decide) lo2_3_o.1 (fun W h => OwI.lt h r2_3) (fun _ _ _ h => lt_of_blk h.2)
 have oo2_3_o_8 := hB2.off 3 8 (by decide) (by decide) (by decide) lo2_3_o.1 (fun W h => OwI.lt h r2_3) (fun _ _ _ h => lt_of_blk h.2)
 have oo2_7_o_0 := hB2.off 7 0 (by decide) (by decide) (by decide) lo2_7_o.1 (fun W h => OwI.lt h r2_7) (fun _ _ _ h => lt_of_blk h.2)
 have oo2_7_o_4 := hB2.off 7 4 (by decide) (by decide) (by decide) lo2_7_o.1 (fun W h => OwI.lt h r2_7) (fun _ _ _ h => lt_of_blk h.2)
 have oo2_7_o_8 := hB2.off 7 8 (by decide) (by decide) (by decide) lo2_7_o.1 (fun W h => OwI.lt h r2_7) (fun _ _ _ h => lt_of_blk h.2)
 have ow2_7_o_3_o := hB2.two 7 3 (by decide) (by decide) (by decide) lo2_7_o.1 lo2_3_o.1 (fun W h => OwI.lt h r2_7) (fun W h => OwI.lt h r2_3)
 have oo2_11_o_0 := hB2.off 11 0 (by decide) (by decide) (by decide) lo2_11_o.1 (fun W h => OwI.lt h r2_11) (fun _ _ _ h => lt_of_blk h.2)
 have oo2_11_o_4 := hB2.off 11 4 (by decide) (by decide) (by decide) lo2_11_o.1 (fun W h => OwI.lt h r2_11) (fun _ _ _ h => lt_of_blk h.2)
 have oo2_11_o_8 := hB2.off 11 8 (by decide) (by decide) (by decide) lo2_11_o.1 (fun W h => OwI.lt h r2_11) (fun _ _ _ h => lt_of_blk h.2)
 have ow2_11_o_3_o := hB2.two 11 3 (by decide) (by decide) (by decide) lo2_11_o.1 lo2_3_o.1 (fun W h => OwI.lt h r2_11) (fun W h => OwI.lt h r2_3)
 have ow2_11_o_7_o := hB2.two 11 7 (by decide) (by decide) (by decide) lo2_11_o.1 lo2_7_o.1 (fun W h => OwI.lt h r2_11) (fun W h => OwI.lt h r2_7)
 have ne2_0_4 := hB2.nb 0 4
 have ne2_0_8 := hB2.nb 0 8
 have ne2_4_8 := hB2.nb 4 8
 have k2_1 := kt hg2 1 k1_1
 have k2_2 := kt hg2 2 k1_2
 have k2_6 := kt hg2 6 r2_3
 have k2_10 := kt hg2 10 r2_7
 have k2_14 := kt hg2 14 r2_11
 have k2_15 := kt hg2 15 (hB2.is 12)
 obtain ⟨W3, hW3⟩ : ∃ W', W' = W2.setRow (s1 0) #[.int .i64 tab, .slice (some ⟨g1', 0, none⟩) (4) (c2'), .int .i64 hh, .slice (a2) (2) (c2), .slice (a3) (2) (c3), .int .i64 sl, .bool op] := ⟨_, rfl⟩
 refine tail_skip (o := _) rfl ⟨rfl, rfl⟩ (run_seg hW3 (fr_ev k2_15) (fr_ev k2_6) b2_0 rfl rfl rfl rfl) ?_
 obtain ⟨fB3, nb3, ot3, z3⟩ := seg_facts hW3 fB2 b2_0 (by omega)
 clear hW3
 have b3_1 := ot3 _ _ (by omega) b2_1
 have b3_2 := ot3 _ _ (by omega) br2_0
 have b3_3 := ot3 _ _ (by omega) br2_4
 have b3_4 := ot3 _ _ (by omega) br2_8
 have q13' := q4'.other ot3 (by omega) z3
 have q14' := q8'.other ot3 (by omega) z3
 have q15' := q12'.other ot3 (by omega) z3
 refine tail_value (o := _) rfl rfl rfl (v := .pointer (some ⟨(s1 0), 3, none⟩)) (by simp [go_sem, frv 19 k2_1]) ?_
 generalize hg4 : upd g2 16 (.pointer (some ⟨(s1 0), 3, none⟩)) = g4
 have k4_1 := ku hg4 1 k2_1
 have k4_2 := ku hg4 2 k2_2
 have k4_10 := ku hg4 10 k2_10
 have k4_14 := ku hg4 14 k2_14
 have k4_16 := kt hg4 16 (upd_same _ _ _)
 obtain ⟨W5, hW5⟩ : ∃ W', W' = W3.setRow (s1 0) #[.int .i64 tab, .slice (some ⟨g1', 0, none⟩) (4) (c2'), .int .i64 hh, .slice (some ⟨g5', 0, none⟩) (2) (c6'), .slice (a3) (2) (c3), .int .i64 sl, .bool op] := ⟨_, rfl⟩
 refine tail_skip (o := _) rfl ⟨rfl, rfl⟩ (run_seg hW5 (fr_ev k4_16) (fr_ev k4_10) nb3 rfl rfl rfl rfl) ?_
 obtain ⟨fB5, nb5, ot5, z5⟩ := seg_facts hW5 fB3 nb3 (by omega)
 clear hW5
 have b5_1 := ot5 _ _ (by omega) b3_1
 have b5_2 := ot5 _ _ (by omega) b3_2
 have b5_3 := ot5 _ _ (by omega) b3_3
 have b5_4 := ot5 _ _ (by omega) b3_4
 have q16' := q13'.other ot5 (by omega) z5
 have q17' := q14'.other ot5 (by omega) z5
 have q18' := q15'.other ot5 (by omega) z5
 refine tail_value (o := _) rfl rfl rfl (v := .pointer (some ⟨(s1 0), 4, none⟩)) (by simp [go_sem, frv 19 k4_1]) ?_
 generalize hg6 : upd g4 17 (.pointer (some ⟨(s1 0), 4, none⟩)) = g6
 have k6_1 := ku hg6 1 k4_1
 have k6_2 := ku hg6 2 k4_2
 have k6_14 := ku hg6 14 k4_14
 have k6_17 := kt hg6 17 (upd_same _ _ _)
 obtain ⟨W7, hW7⟩ : ∃ W', W' = W5.setRow (s1 0) #[.int .i64 tab, .slice (some ⟨g1', 0, none⟩) (4) (c2'), .int .i64 hh, .slice (some ⟨g5', 0, none⟩) (2) (c6'), .slice (some ⟨g9', 0, none⟩) (2) (c10'), .int .i64 sl, .bool op] := ⟨_, rfl⟩
 refine tail_skip (o := _) rfl ⟨rfl, rfl⟩ (run_seg hW7 (fr_ev k6_17) (fr_ev k6_14) nb5 rfl rfl rfl rfl) ?_
 obtain ⟨fB7, nb7, ot7, z7⟩ := seg_facts hW7 fB5 nb5 (by omega)
 clear hW7
 have b7_1 := ot7 _ _ (by omega) b5_1
 have b7_2 := ot7 _ _ (by omega) b5_2
 have b7_3 := ot7 _ _ (by omega) b5_3
 have b7_4 := ot7 _ _ (by omega) b5_4
 have q19' := q16'.other ot7 (by omega) z7
 have q20' := q17'.other ot7 (by omega) z7
 have q21' := q18'.other ot7 (by omega) z7
 refine wpOps_end ?_
 refine hK2 _ _ ?_
 refine wp_seq_k fun K3 hK3 => ?_
 refine region_dk 1 [(18, 0)] [[], [0]] (rel [is (.agg #[.int .i64 tab, .slice (some ⟨g1', 0, none⟩) (4) (c2'), .int .i64 hh, .slice (some ⟨g5', 0, none⟩) (2) (c6'), .slice (some ⟨g9', 0, none⟩) (2) (c10'), .int .i64 sl, .bool op])])
  ⟨is_k, trivial⟩
  ⟨fun f s W c d i j l a => opv rfl rfl (by simp [go_sem, a.e 1 k6_1, cb nb7 c 0, cb nb7 c 1, cb nb7 c 2, cb nb7 c 3, cb nb7 c 4, cb nb7 c 5, cb nb7 c 6]) rfl, trivial⟩ ?_
 intro f8 s8 W8 hB8 g8 hg8
 have fB8 := hB8.f fB7
 have z8 := hB8.below.size
 have b8_0 := hB8.b nb7
 have b8_1 := hB8.b b7_1
 have b8_2 := hB8.b b7_2
 have b8_3 := hB8.b b7_3
 have b8_4 := hB8.b b7_4
 have q22' := (q19'.below hB8.below)
 have q23' := (q20'.below hB8.below)
 have q24' := (q21'.below hB8.below)
 have k8_2 := kt hg8 2 k6_2
 have k8_18 := kt hg8 18 (hB8.is 0)
 obtain ⟨W9, hW9⟩ : ∃ W', W' = W8.setRow (s1 1) #[.int .i64 tab, .slice (some ⟨g1', 0, none⟩) (4) (c2'), .int .i64 hh, .slice (some ⟨g5', 0, none⟩) (2) (c6'), .slice (some ⟨g9', 0, none⟩) (2) (c10'), .int .i64 sl, .bool op] := ⟨_, rfl⟩
 refine tail_skip (o := _) rfl ⟨rfl, rfl⟩ (run_seg hW9 (fr_ev k8_2) (fr_ev k8_18) b8_1 rfl rfl rfl rfl) ?_
 obtain ⟨fB9, nb9, ot9, z9⟩ := seg_facts hW9 fB8 b8_1 (by omega)
 clear hW9
 have b9_0 := ot9 _ _ (by omega) b8_0
 have b9_2 := ot9 _ _ (by omega) b8_2
 have b9_3 := ot9 _ _ (by omega) b8_3
 have b9_4 := ot9 _ _ (by omega) b8_4
 have q25' := q22'.other ot9 (by omega) z9
 have q26' := q23'.other ot9 (by omega) z9
 have q27' := q24'.other ot9 (by omega) z9
 refine wpOps_end ?_
 refine hK3 _ _ ?_
 refine wp_ret ?_
 refine leave_gen (v := .agg #[.int .i64 tab, .slice (some ⟨g1', 0, none⟩) (4) (c2'), .int .i64 hh, .slice (some ⟨g5', 0, none⟩) (2) (c6'), .slice (some ⟨g9', 0, none⟩) (2) (c10'), .int .i64 sl, .bool op]) (.inr rfl) (by simp [results, Try.results35, go_sem, frv 19 k8_2, cl nb9 0, cl nb9 1, cl nb9 2, cl nb9 3, cl nb9 4, cl nb9 5, cl nb9 6]) ?_
 exact ⟨_, rfl, ⟨_, _, _, _, _, _, rfl, q25', q26', q27', by omega, by omega, by omega⟩, fB9⟩
set_option maxRecDepth 100000 in
set_option maxHeartbeats 2000000 in
theorem own_own (a1 a2 a3 : Option Addr) (c1 c2 c3 : Nat) (tab p0 p1 p2 p3 hh t0 t1 u0 u1 sl : Int) (op : Bool) (w : World) (h1 : Ii w a1 4 c1 [p0, p1, p2, p3]) (h2 : Ii w a2 2 c2 [t0, t1]) (h3 : Ii w a3 2 c3 [u0, u1]) :
  Calls Try.prog 9 #[.agg #[.int .i64 tab, .slice (a1) (4) (c1), .int .i64 hh, .slice (a2) (2) (c2), .slice (a3) (2) (c3), .int .i64 sl, .bool op]] w (OwBlkP ⟨tab, [p0, p1, p2, p3], hh, [t0, t1], [u0, u1], sl, op⟩ w) := by
 refine calls_fr Try.func9 Try.ntmps9 rfl rfl fun g hg => ?_
 have k0 : g 0 = .agg #[.int .i64 tab, .slice (a1) (4) (c1), .int .i64 hh, .slice (a2) (2) (c2), .slice (a3) (2) (c3), .int .i64 sl, .bool op] := hg 0
 clear hg
 have fB0 : Below w.heap.size w w := Below.refl _ _
 refine wp_seq_k fun K1 hK1 => ?_
 refine region_dk 2 [(1, 0), (2, 1)] [[], []] (rel [bx 0 #[.int .i64 tab, .slice (a1) (4) (c1), .int .i64 hh, .slice (a2) (2) (c2), .slice (a3) (2) (c3), .int .i64 sl, .bool op] 24,
   bx 1 #[.int .i64 0, .slice (none) (0) (0), .int .i64 0, .slice (none) (0) (0), .slice (none) (0) (0), .int .i64 0, .bool false] 24])
  ⟨bx_k, bx_k, trivial⟩
  ⟨fun f s W c d i j l a => opb rfl rfl (by simp [go_sem, a.e 0 k0]),
  fun f s W c d i j l a => opb rfl rfl (by simp [go_sem]), trivial⟩ ?_
 intro f1 s1 W1 hB1 g1 hg1
 have fB1 := hB1.f fB0
 have z1 := hB1.below.size
 obtain ⟨r1_0, br1_0⟩ := hB1.is 0
 have lr1_0 := hB1.lr 0 br1_0
 obtain ⟨r1_1, br1_1⟩ := hB1.is 1
 have lr1_1 := hB1.lr 1 br1_1
 have ne1_0_1 := hB1.nb 0 1
 refine hK1 _ _ ?_
 have k1_1 := kt hg1 1 r1_0
 have k1_2 := kt hg1 2 r1_1
 refine wp_seq_k fun K2 hK2 => ?_
 refine region_dk 2 [(3, 0), (4, 1)] [[], [0], [0, 1]] (rel [is (.agg #[.int .i64 tab, .slice (a1) (4) (c1), .int .i64 hh, .slice (a2) (2) (c2), .slice (a3) (2) (c3), .int .i64 sl, .bool op]),
   fun v s W => OwBlk (s 1) (⟨tab, [p0, p1, p2, p3], hh, [t0, t1], [u0, u1], sl, op⟩) v W])
  ⟨is_k, ⟨fun v k W W' hb h => h.below hb, fun v s s' W e h => by have h' : OwBlk (s 1) (⟨tab, [p0, p1, p2, p3], hh, [t0, t1], [u0, u1], sl, op⟩) v W := h; show OwBlk (s' 1) (⟨tab, [p0, p1, p2, p3], hh, [t0, t1], [u0, u1], sl, op⟩) v W; rw [← e 1 (by simp)]; exact h'⟩, trivial⟩
  ⟨fun f s W c d i j l a => opv rfl rfl (by simp [go_sem, a.e 1 k1_1, cb br1_0 c 0, cb br1_0 c 1, cb br1_0 c 2, cb br1_0 c 3, cb br1_0 c 4, cb br1_0 c 5, cb br1_0 c 6]) rfl,
  fun f s W c d i j l a => by have m := below_trans fB1 c; exact opDo_call rfl rfl (by simp [go_sem, a.e 3 (d 0 rfl)]) (copy_own a1 a2 a3 c1 c2 c3 tab p0 p1 p2 p3 hh t0 t1 u0 u1 sl op W (h1.below m (Nat.le_refl _)) (h2.below m (Nat.le_refl _)) (h3.below m (Nat.le_refl _))) (fun e W' h => by obtain ⟨v, e1, h1, h2⟩ := h; exact ⟨v, e1, h2, (show OwBlk (upd s 1 W.heap.size 1) (⟨tab, [p0, p1, p2, p3], hh, [t0, t1], [u0, u1], sl, op⟩) v W' from by rw [upd_at]; exact h1)⟩), trivial⟩ ?_
 intro f2 s2 W2 hB2 g2 hg2
 have fB2 := hB2.f fB1
 have z2 := hB2.below.size
 have b2_0 := hB2.b br1_0
 have b2_1 := hB2.b br1_1
 obtain ⟨g28', c31', g29', c32', g30', c33', r2_1, q34', q35', q36', q37', q38', q39'⟩ := hB2.is 1
 have la2_1 := hB2.from' 1 (by decide)
 have lo2_1_o0 := q34'.lim
 have q40' := q34'.low (B' := w.heap.size) (Nat.le_trans fB1.size (la2_1))
 have lo2_1_o1 := q35'.lim
 have q41' := q35'.low (B' := w.heap.size) (Nat.le_trans fB1.size (la2_1))
 have lo2_1_o2 := q36'.lim
 have q42' := q36'.low (B' := w.heap.size) (Nat.le_trans fB1.size (la2_1))
 have k2_2 := kt hg2 2 k1_2
 have k2_4 := kt hg2 4 r2_1
 obtain ⟨W3, hW3⟩ : ∃ W', W' = W2.setRow (s1 1) #[.int .i64 tab, .slice (some ⟨g28', 0, none⟩) (4) (c31'), .int .i64 hh, .slice (some ⟨g29', 0, none⟩) (2) (c32'), .slice (some ⟨g30', 0, none⟩) (2) (c33'), .int .i64 sl, .bool op] := ⟨_, rfl⟩
 refine tail_skip (o := _) rfl ⟨rfl, rfl⟩ (run_seg hW3 (fr_ev k2_2) (fr_ev k2_4) b2_1 rfl rfl rfl rfl) ?_
 obtain ⟨fB3, nb3, ot3, z3⟩ := seg_facts hW3 fB2 b2_1 (by omega)
 clear hW3
 have b3_0 := ot3 _ _ (by omega) b2_0
 have q43' := q40'.other ot3 (by omega) z3
 have q44' := q41'.other ot3 (by omega) z3
 have q45' := q42'.other ot3 (by omega) z3
 refine wpOps_end ?_
 refine hK2 _ _ ?_
 refine wp_ret ?_
 refine leave_gen (v := .agg #[.int .i64 tab, .slice (some ⟨g28', 0, none⟩) (4) (c31'), .int .i64 hh, .slice (some ⟨g29', 0, none⟩) (2) (c32'), .slice (some ⟨g30', 0, none⟩) (2) (c33'), .int .i64 sl, .bool op]) (.inr rfl) (by simp [results, Try.results9, go_sem, frv 5 k2_2, cl nb3 0, cl nb3 1, cl nb3 2, cl nb3 3, cl nb3 4, cl nb3 5, cl nb3 6]) ?_
 exact ⟨_, rfl, ⟨_, _, _, _, _, _, rfl, q43', q44', q45', by omega, by omega, by omega⟩, fB3⟩
end Go.Proofs.Ythnediamopehfaa
namespace Go.Proofs.Ythnediamopehfaa
open Go.RowKit
/-- Nothing is changed but new blocks of the kind T; what G says of such a block's content stays said. -/
structure LeT (B : Nat) (T : TypeId) (G : Array Value → World → Prop) (a b : World) : Prop where
  os : b.os = a.os
  tape : b.tape = a.tape
  output : b.output = a.output
  size : a.heap.size ≤ b.heap.size
  block : ∀ k x, a.heap[k]? = some x → (k < B ∨ ∀ cs, x ≠ .cells cs T (0, 0)) → b.heap[k]? = some x
  kind : ∀ k cs, B ≤ k → a.heap[k]? = some (.cells cs T (0, 0)) → ∃ cs', b.heap[k]? = some (.cells cs' T (0, 0)) ∧ cs'.size = cs.size ∧ (G cs a → G cs' b)
/-- What G says stays while only new memory is written. -/
def GoodB (G : Array Value → World → Prop) : Prop := ∀ cs a b, Below a.heap.size a b → G cs a → G cs b
section
variable {B : Nat} {T : TypeId} {G : Array Value → World → Prop}
theorem LeT.refl (a : World) : LeT B T G a a := ⟨rfl, rfl, rfl, Nat.le_refl _, fun _ _ h _ => h, fun _ cs _ h => ⟨cs, h, rfl, fun g => g⟩⟩
theorem LeT.trans (a b c : World) (h : LeT B T G a b) (k : LeT B T G b c) : LeT B T G a c :=
  ⟨k.os.trans h.os, k.tape.trans h.tape, k.output.trans h.output, Nat.le_trans h.size k.size, fun i x hx hn => k.block i x (h.block i x hx hn) hn, fun i cs hi hx => by
    obtain ⟨cs1, h1, h2, h3⟩ := h.kind i cs hi hx
    obtain ⟨cs2, h4, h5, h6⟩ := k.kind i cs1 hi h1
    exact ⟨cs2, h4, h5.trans h2, fun g => h6 (h3 g)⟩⟩
theorem LeT.of_below (hG : GoodB G) (a b : World) (h : Below a.heap.size a b) : LeT B T G a b :=
  ⟨h.os, h.tape, h.output, h.size, fun k x hx _ => blk_below hx h, fun k cs _ hx => ⟨cs, blk_below hx h, rfl, fun g => hG cs a b h g⟩⟩
theorem LeT.drew (hG : GoodB G) (a : World) : LeT B T G a a.drew := LeT.of_below hG _ _ (Below.refl _ _).drew
theorem LeT.below {a b : World} (h : LeT B T G a b) (hB : B ≤ a.heap.size) : Below B a b :=
  ⟨h.os, h.tape, h.output, h.size, fun k hk => by
    have hx : a.heap[k]? = some a.heap[k] := Array.getElem?_eq_getElem (by omega)
    rw [hx]; exact h.block k _ hx (.inl hk)⟩
end
section
variable {P : Program} {ops : Array Oper} {Q : Exit → Act → World → Prop}
end
end Go.Proofs.Ythnediamopehfaa
namespace Go.Proofs.Ythnediamopehfaa
open Go.RowKit
theorem sheet_b (x : Sh) (hx : ShIn x) (w : World) : Calls Try.prog 24 #[.agg #[.int .u8 x.x0, .int .u8 x.x1, .int .u8 x.x2, .int .u8 x.x3, .int .u8 x.xh, .int .u8 x.y0, .int .u8 x.y1, .int .u8 x.y2, .int .u8 x.y3, .bool x.xo, .int .u8 x.ca, .int .u8 x.cb, .int .u8 x.v0, .int .u8 x.v1, .int .u8 x.v2, .int .u8 x.v3, .int .u8 x.v4]] w (TyBlkP (shBl x) w) := by
  obtain ⟨h0, h1', h2', h3', hh, b0, b1, b2, b3, ca, cb, e0, e1, e2, e3, e4⟩ := hx
  exact sheet_blank x.x0 x.x1 x.x2 x.x3 x.xh x.y0 x.y1 x.y2 x.y3 x.xo x.ca x.cb x.v0 x.v1 x.v2 x.v3 x.v4 w h0 h1' h2' h3' hh b0 b1 b2 b3 ca cb e0 e1 e2 e3 e4
theorem sheet_c (x : Sh) (hx : ShIn x) (w : World) : Calls Try.prog 25 #[.agg #[.int .u8 x.x0, .int .u8 x.x1, .int .u8 x.x2, .int .u8 x.x3, .int .u8 x.xh, .int .u8 x.y0, .int .u8 x.y1, .int .u8 x.y2, .int .u8 x.y3, .bool x.xo, .int .u8 x.ca, .int .u8 x.cb, .int .u8 x.v0, .int .u8 x.v1, .int .u8 x.v2, .int .u8 x.v3, .int .u8 x.v4]] w (fun e w' => e = .returned (.agg #[.int .i64 (shCal x).1, .int .i64 (shCal x).2]) ∧ Below w.heap.size w w') := by
  obtain ⟨h0, h1', h2', h3', hh, b0, b1, b2, b3, ca, cb, e0, e1, e2, e3, e4⟩ := hx
  exact shCal_any x.x0 x.x1 x.x2 x.x3 x.xh x.y0 x.y1 x.y2 x.y3 x.xo x.ca x.cb x.v0 x.v1 x.v2 x.v3 x.v4 w h0 h1' h2' h3' hh b0 b1 b2 b3 ca cb e0 e1 e2 e3 e4
theorem pp_nth {W : World} {aa : Option Addr} {a o n c : Nat} {xs : List Sp} (h : Pp W aa n c xs) (ha : aa = some ⟨a, o, none⟩) {i : Nat} (hi : i < xs.length) :
    W.cell? ⟨a, o + i * 2, none⟩ = some (.int .i64 (nthP xs i).1) ∧ W.cell? ⟨a, o + i * 2 + 1, none⟩ = some (.int .i64 (nthP xs i).2) := pp_get h ha hi
def IsPpP (L : List Sp) (er : Int) (w : World) (e : Ending) (w' : World) : Prop := ∃ x, e = .returned (.tuple #[x, .int .i64 er]) ∧ IsPp L x w' ∧ Below w.heap.size w w'
end Go.Proofs.Ythnediamopehfaa
namespace Go.Proofs.Ythnediamopehfaa
open Go.RowKit
end Go.Proofs.Ythnediamopehfaa
namespace Go.Proofs.Ythnediamopehfaa
open Go.RowKit
/-- A list in a row that was made, from block B on, or nil. -/
def NwA (B : Nat) (xs : List Int) (v : Value) (W : World) : Prop := ∃ a c, v = .slice a xs.length c ∧ Ii W a xs.length c xs ∧ ∀ g o, a = some ⟨g, o, none⟩ → B ≤ g ∧ g < W.heap.size
theorem NwA.below {B : Nat} {xs : List Int} {v : Value} {W W' : World} (h : NwA B xs v W) (hb : Below W.heap.size W W') : NwA B xs v W' := by
  obtain ⟨a, c, e, h, l⟩ := h
  exact ⟨a, c, e, h.below hb (Nat.le_refl _), fun g o e => ⟨(l g o e).1, Nat.lt_of_lt_of_le (l g o e).2 hb.size⟩⟩
end Go.Proofs.Ythnediamopehfaa
namespace Go.Proofs.Ythnediamopehfaa
open Go.RowKit
/-- A measure in micrometres. -/
def mic (b : Bl) (c : Int) (i : Nat) : Int := (microsOf b c).getD i 0
end Go.Proofs.Ythnediamopehfaa
namespace Go.Proofs.Ythnediamopehfaa
open Go.RowKit
theorem Ii.lim {W : World} {a : Option Addr} {n c : Nat} {xs : List Int} (h : Ii W a n c xs) : ∀ g o, a = some ⟨g, o, none⟩ → xs ≠ [] → g < W.heap.size := by
  intro g o e hne
  obtain ⟨b, off, e', hl, -⟩ := h.at (List.length_pos_iff.2 hne)
  rw [e] at e'
  cases e'
  exact hl
end Go.Proofs.Ythnediamopehfaa
namespace Go.Proofs.Ythnediamopehfaa
open Go.RowKit
theorem micros_blk (a1 a2 a3 : Option Addr) (c1 c2 c3 : Nat) (b : Bl) (c : Int) (w : World) (h1 : Ii w a1 b.panels.length c1 b.panels) (h2 : Ii w a2 b.top.length c2 b.top) (h3 : Ii w a3 b.bottom.length c3 b.bottom) (hck : checkErr b = 0) (hc : 0 ≤ c ∧ c ≤ 100000) : Calls Try.prog 26 #[.agg #[.int .i64 b.tab, .slice (a1) (b.panels.length) (c1), .int .i64 b.height, .slice (a2) (b.top.length) (c2), .slice (a3) (b.bottom.length) (c3), .int .i64 b.slot, .bool b.isOpen], .int .i64 c] w (fun e w' => e = .returned (.agg #[.int .i64 (mic b c 0), .int .i64 (mic b c 1), .int .i64 (mic b c 2), .int .i64 (mic b c 3), .int .i64 (mic b c 4), .int .i64 (mic b c 5), .int .i64 (mic b c 6), .int .i64 (mic b c 7), .int .i64 (mic b c 8)]) ∧ Below w.heap.size w w') := by
  obtain ⟨⟨hl1, hl2, hl3⟩, -, -, gh, ⟨gp0, gp1, gp2, gp3⟩, gt0, gt1, gu0, gu1⟩ := good_nums hck
  obtain ⟨tab, panels, hh, top, bottom, sl, op⟩ := b
  obtain ⟨p0, p1, p2, p3, rfl⟩ := list_four hl1
  obtain ⟨t0, t1, rfl⟩ := list_two hl2
  obtain ⟨u0, u1, rfl⟩ := list_two hl3
  simp only [List.getD_cons_zero, List.getD_cons_succ] at gp0 gp1 gp2 gp3 gt0 gt1 gu0 gu1
  have gh : 1 ≤ hh ∧ hh ≤ 3000 := gh
  exact micros_any a1 a2 a3 c1 c2 c3 tab p0 p1 p2 p3 hh t0 t1 u0 u1 sl op c w h1 h2 h3 (by omega) (by omega) (by omega) (by omega) (by omega) (by omega) (by omega) (by omega) (by omega) hc
end Go.Proofs.Ythnediamopehfaa
namespace Go.Proofs.Ythnediamopehfaa
open Go.RowKit
def insideB (b : Bl) (c x y z : Int) : Bool := ((decide (1000 * x ≤ min (panR b 0 c) (panR b 2 c)) && decide (1000 * y ≤ min (panR b 1 c) (panR b 3 c))) && decide (1000 * z ≤ heightR b c)) || (((decide (1000 * x ≤ min (panR b 0 c) (panR b 2 c)) && decide (1000 * z ≤ min (panR b 1 c) (panR b 3 c))) && decide (1000 * y ≤ heightR b c)) || (((decide (1000 * y ≤ min (panR b 0 c) (panR b 2 c)) && decide (1000 * x ≤ min (panR b 1 c) (panR b 3 c))) && decide (1000 * z ≤ heightR b c)) || (((decide (1000 * y ≤ min (panR b 0 c) (panR b 2 c)) && decide (1000 * z ≤ min (panR b 1 c) (panR b 3 c))) && decide (1000 * x ≤ heightR b c)) || (((decide (1000 * z ≤ min (panR b 0 c) (panR b 2 c)) && decide (1000 * x ≤ min (panR b 1 c) (panR b 3 c))) && decide (1000 * y ≤ heightR b c)) || (((decide (1000 * z ≤ min (panR b 0 c) (panR b 2 c)) && decide (1000 * y ≤ min (panR b 1 c) (panR b 3 c))) && decide (1000 * x ≤ heightR b c)))))))
end Go.Proofs.Ythnediamopehfaa
namespace Go.Proofs.Ythnediamopehfaa
open Go.RowKit
theorem NwIi.lt {B : Nat} {xs : List Int} {v : Value} {W : World} (h : NwIi B xs v W) {g n c : Nat} (e : v = .slice (some ⟨g, 0, none⟩) n c) : g < W.heap.size := by
  obtain ⟨g', c', e', -, -, m⟩ := h
  rw [e] at e'
  simp only [Value.slice.injEq, Option.some.injEq, Addr.mk.injEq, and_true] at e'
  obtain ⟨rfl, -⟩ := e'
  exact m
theorem sort3 (x y z : Int) : sortI [x, y, z] = if x ≤ y then (if y ≤ z then [x, y, z] else if x ≤ z then [x, z, y] else [z, x, y]) else (if x ≤ z then [y, x, z] else if y ≤ z then [y, z, x] else [z, y, x]) := by
  by_cases h1 : x ≤ y <;> by_cases h2 : y ≤ z <;> by_cases h3 : x ≤ z <;> first | (exfalso; omega) | simp [sortI, List.mergeSort, List.MergeSort.Internal.splitInTwo, List.merge, h1, h2, h3]
theorem inside_fits (b : Bl) (c x y z : Int) : insideB b c x y z = fitsOf b c [x, y, z] := by
  have e : roomOf b c = [min (panR b 0 c) (panR b 2 c), min (panR b 1 c) (panR b 3 c), heightR b c] := by
    unfold roomOf withM meas measOf panR heightR foldsOf
    cases b.isOpen <;> simp <;> omega
  unfold fitsOf insideB
  rw [e, show [x, y, z].map (1000 * ·) = [1000 * x, 1000 * y, 1000 * z] from rfl]
  generalize 1000 * x = X; generalize 1000 * y = Y; generalize 1000 * z = Z
  generalize min (panR b 0 c) (panR b 2 c) = L; generalize min (panR b 1 c) (panR b 3 c) = M; generalize heightR b c = N
  rw [Bool.eq_iff_iff]
  simp only [Bool.or_eq_true, Bool.and_eq_true, decide_eq_true_eq, sort3]
  (repeat' split) <;> simp <;> omega
theorem holds_e5 {b : Bl} {s : Sp} {l : List Int} (h : checkErr b = 0) (h2 : isSpan s 1 10000 = true) (h3 : l.length = 3) (h4 : areLong 0 l = true) : holdsErr b s l = 0 := by simp [holdsErr, checkedErr, h, h2, h3, h4]
end Go.Proofs.Ythnediamopehfaa
namespace Go.Proofs.Ythnediamopehfaa
open Go.RowKit
theorem storeIA_tail {w W : World} {xs : List Int} (ys : List Int) {g c : Nat} {i : Nat} {x : Int} (hi : i < xs.length) (hys : xs.set i x = ys) (hB : Below w.heap.size w W) (hown : OwnI w.heap.size xs g c W) :
    ∃ W', (∀ {a : Act} {dst : Option Nat} {tt : TypeId} {X Y : Operand} {pos : String} {af : Array Edge} {gd : Option (Nat × Bool)}, a.eval X = .pointer (some ⟨g, i, none⟩) → a.eval Y = .int .i64 x → (execOp a.eval { dst := dst, op := .store 3 X Y, type := tt, pos := pos, after := af, guard := gd }).run Try.prog W = .ok .skip W') ∧
      OwnI w.heap.size ys g c W' ∧ (∀ k y, k ≠ g → W.heap[k]? = some y → W'.heap[k]? = some y) ∧ W.heap.size ≤ W'.heap.size ∧ Below w.heap.size w W' ∧ (∀ a : World, Below a.heap.size a W → a.heap.size ≤ g → Below a.heap.size a W') := by
  subst hys
  obtain ⟨hg, hlt, hl, hr⟩ := hown
  rcases hr with ⟨h, -⟩ | ⟨g', cap, cur, e, h1, h2, h3, h4, h5, h6⟩
  · cases h
  · cases e
    simp only [Nat.mul_one] at h5 h6
    have hsz : i + 1 ≤ cur.size := by omega
    refine ⟨W.setRow g (cur.toList.take i ++ [Value.int .i64 x] ++ cur.toList.drop (i + 1)).toArray, fun hX hY => ?_, ⟨hg, ?_, ?_, .inr ⟨g, _, _, ?_, h1, setRow_heap W g cur _ _ (0, 0) h2, ?_, h4, ?_, ?_⟩⟩, fun k y hk hy => by rw [setRow_other W g k _ hk]; exact hy, by rw [setRow_size]; exact Nat.le_refl _, below_setRow hB hg _, fun a ha hga => below_setRow ha hga _⟩
    · exact run_seg (v := .int .i64 x) rfl hX hY h2 (by kernel_rfl) (by simpa [Value.cells] using hsz) rfl (by simp [Value.cells])
    · rw [setRow_size]; exact hlt
    · simp
    · simp
    · simpa using h3
    · simp; omega
    · simp only [Nat.mul_one, List.length_set]
      rw [List.toList_toArray]
      exact take_set_cells h6 i hi x (by show xs.length ≤ cur.size; rw [h5]; exact h3)
end Go.Proofs.Ythnediamopehfaa
namespace Go.Proofs.Ythnediamopehfaa
open Go.RowKit
theorem panels_at {b : Bl} (h : checkErr b = 0) {i : Nat} (hi : i < 4) : i < b.panels.length := by
  obtain ⟨⟨l1, -, -⟩, -⟩ := good_nums h
  omega
theorem play_len {b d : Bl} {s t : Sp} (h : checkErr b = 0) (k : checkErr d = 0) : (playL b d s t).length = 4 := by
  obtain ⟨⟨l1, -, -⟩, -⟩ := good_nums h
  obtain ⟨⟨l2, -, -⟩, -⟩ := good_nums k
  simp [playL, l1, l2]
theorem play_nth {b d : Bl} {x1 y1 x2 y2 : Int} (h : checkErr b = 0) (k : checkErr d = 0) {i : Nat} (hi : i < 4) : nthP (playL b d (x1, y1) (x2, y2)) i = (1000 * (b.panels.getD i 0 - d.panels.getD i 0) - y1 - y2, 1000 * (b.panels.getD i 0 - d.panels.getD i 0) - x1 - x2) := by
  have hb := panels_at h hi
  have hd := panels_at k hi
  simp only [nthP, playL, List.getD_eq_getElem?_getD, List.getElem?_zipWith, List.getElem?_eq_getElem hb, List.getElem?_eq_getElem hd, Option.getD_some]
theorem chk_e5 {b d : Bl} {s t : Sp} (h : checkErr b = 0) (h2 : checkErr d = 0) (h3 : isSpan s 1 10000 = true) (h4 : isSpan t 1 10000 = true) : checkedErr [b, d] [s, t] = 0 := by simp [checkedErr, h, h2, h3, h4]
theorem span_in {lo hi : Int} (h1 : 1 ≤ lo) (h2 : lo ≤ hi) (h3 : hi ≤ 10000) : isSpan (lo, hi) 1 10000 = true := isSpan_iff.2 ⟨h1, h2, h3⟩
/-- A thing whose sizes are all greater than those inside a box does not fit. -/
theorem inside_no {b : Bl} {c x y z : Int} (hx : min (panR b 0 c) (panR b 2 c) < 1000 * x) (hy : min (panR b 1 c) (panR b 3 c) < 1000 * y) (hz : heightR b c < 1000 * z) : insideB b c x y z = false := by
  unfold insideB
  generalize 1000 * x = X at *; generalize 1000 * y = Y at *; generalize 1000 * z = Z at *
  generalize min (panR b 0 c) (panR b 2 c) = L at *; generalize min (panR b 1 c) (panR b 3 c) = M at *; generalize heightR b c = N at *
  rw [Bool.eq_false_iff]
  intro h
  simp only [Bool.or_eq_true, Bool.and_eq_true, decide_eq_true_eq] at h
  omega
theorem inside_yes {b : Bl} {c x y z : Int} (hx : 1000 * x ≤ min (panR b 0 c) (panR b 2 c)) (hy : 1000 * y ≤ min (panR b 1 c) (panR b 3 c)) (hz : 1000 * z ≤ heightR b c) : insideB b c x y z = true := by
  unfold insideB
  generalize 1000 * x = X at *; generalize 1000 * y = Y at *; generalize 1000 * z = Z at *
  generalize min (panR b 0 c) (panR b 2 c) = L at *; generalize min (panR b 1 c) (panR b 3 c) = M at *; generalize heightR b c = N at *
  simp only [Bool.or_eq_true, Bool.and_eq_true, decide_eq_true_eq]
  omega
theorem inside_yes2 {b : Bl} {c x y z : Int} (hx : 1000 * x ≤ heightR b c) (hy : 1000 * y ≤ min (panR b 0 c) (panR b 2 c)) (hz : 1000 * z ≤ min (panR b 1 c) (panR b 3 c)) : insideB b c x y z = true := by
  unfold insideB
  generalize 1000 * x = X at *; generalize 1000 * y = Y at *; generalize 1000 * z = Z at *
  generalize min (panR b 0 c) (panR b 2 c) = L at *; generalize min (panR b 1 c) (panR b 3 c) = M at *; generalize heightR b c = N at *
  simp only [Bool.or_eq_true, Bool.and_eq_true, decide_eq_true_eq]
  omega
theorem long3 {x y z : Int} (hx : 0 ≤ x ∧ x ≤ 3000) (hy : 0 ≤ y ∧ y ≤ 3000) (hz : 0 ≤ z ∧ z ≤ 3000) : areLong 0 [x, y, z] = true := by
  simp [areLong, within, hx, hy, hz]
theorem holds_in {u : Value} {b : Bl} {lo hi : Int} {a : Option Addr} {c : Nat} {x y z : Int} {s p : Bool} (w : World) (hB : Blk w u b) (hI : Ii w a 3 c [x, y, z]) (hck : checkErr b = 0) (h1 : 1 ≤ lo) (h2 : lo ≤ hi) (h3 : hi ≤ 10000) (hx : 0 ≤ x ∧ x ≤ 3000) (hy : 0 ≤ y ∧ y ≤ 3000) (hz : 0 ≤ z ∧ z ≤ 3000) (hs : insideB b hi x y z = s) (hp : insideB b lo x y z = p) :
    Calls Try.prog 21 #[u, .agg #[.int .i64 lo, .int .i64 hi], .slice a 3 c] w (fun e w' => e = .returned (.tuple #[.bool s, .bool p, .int .i64 0]) ∧ Below w.heap.size w w') := by
  refine (holds_any u b lo hi a 3 c [x, y, z] w hB hI).mono fun e w' h => ?_
  have e1 : e = .returned (.tuple #[.bool (if holdsErr b (lo, hi) [x, y, z] = 0 then fitsOf b hi [x, y, z] else false), .bool (if holdsErr b (lo, hi) [x, y, z] = 0 then fitsOf b lo [x, y, z] else false), .int .i64 (holdsErr b (lo, hi) [x, y, z])]) := h.1
  rw [holds_e5 hck (span_in h1 h2 h3) rfl (long3 hx hy hz), if_pos rfl, if_pos rfl, ← inside_fits, ← inside_fits, hs, hp] at e1
  exact ⟨e1, h.2⟩
theorem play_in {u v : Value} {b d : Bl} {x1 y1 x2 y2 : Int} {L : List Sp} (w : World) (hB : Blk w u b) (hD : Blk w v d) (hb : checkErr b = 0) (hd : checkErr d = 0) (h1 : 1 ≤ x1) (h2 : x1 ≤ y1) (h3 : y1 ≤ 10000) (h4 : 1 ≤ x2) (h5 : x2 ≤ y2) (h6 : y2 ≤ 10000) (hL : playL b d (x1, y1) (x2, y2) = L) :
    Calls Try.prog 16 #[u, v, .agg #[.int .i64 x1, .int .i64 y1], .agg #[.int .i64 x2, .int .i64 y2]] w (IsPpP L 0 w) := by
  have hE := chk_e5 hb hd (span_in h1 h2 h3) (span_in h4 h5 h6)
  refine (play_any u v b d x1 y1 x2 y2 w hB hD).mono fun e w' h => ?_
  obtain ⟨a, n, c, e1, h1, h2⟩ := h
  rw [hE] at e1
  rw [if_pos hE, hL] at h1
  exact ⟨_, e1, isPp_of h1, h2⟩
theorem own_lit {tab p0 p1 p2 p3 hh t0 t1 u0 u1 sl : Int} {op : Bool} {b : Bl} (hb : b = ⟨tab, [p0, p1, p2, p3], hh, [t0, t1], [u0, u1], sl, op⟩) (a1 a2 a3 : Option Addr) (c1 c2 c3 : Nat) (w : World) (h1 : Ii w a1 b.panels.length c1 b.panels) (h2 : Ii w a2 b.top.length c2 b.top) (h3 : Ii w a3 b.bottom.length c3 b.bottom) :
    Calls Try.prog 9 #[.agg #[.int .i64 b.tab, .slice (a1) (b.panels.length) (c1), .int .i64 b.height, .slice (a2) (b.top.length) (c2), .slice (a3) (b.bottom.length) (c3), .int .i64 b.slot, .bool b.isOpen]] w (OwBlkP ⟨tab, [p0, p1, p2, p3], hh, [t0, t1], [u0, u1], sl, op⟩ w) := by
  subst hb
  exact own_own a1 a2 a3 c1 c2 c3 tab p0 p1 p2 p3 hh t0 t1 u0 u1 sl op w h1 h2 h3
theorem own_lg {tab p0 p1 p2 p3 hh t0 t1 u0 u1 sl : Int} {op : Bool} {b : Bl} (hb : b = ⟨tab, [p0, p1, p2, p3], hh, [t0, t1], [u0, u1], sl, op⟩) (a1 a2 a3 : Option Addr) (c1 c2 c3 : Nat) (w : World) (h1 : Ii w a1 4 c1 [p0, p1, p2, p3]) (h2 : Ii w a2 2 c2 [t0, t1]) (h3 : Ii w a3 2 c3 [u0, u1]) :
    Calls Try.prog 9 #[.agg #[.int .i64 tab, .slice (a1) (4) (c1), .int .i64 hh, .slice (a2) (2) (c2), .slice (a3) (2) (c3), .int .i64 sl, .bool op]] w (NwBlkP b w) := by
  subst hb
  exact own_any a1 a2 a3 c1 c2 c3 ⟨tab, [p0, p1, p2, p3], hh, [t0, t1], [u0, u1], sl, op⟩ w h1 h2 h3 (by simp) (by simp) (by simp)
theorem mic_pan (b : Bl) (c : Int) {k : Nat} (hk : k < 4) : mic b c k = panR b k c := by
  match k, hk with
  | 0, _ => rfl
  | 1, _ => rfl
  | 2, _ => rfl
  | 3, _ => rfl
theorem mic_high (b : Bl) (c : Int) : mic b c 4 = heightR b c := by
  show (if b.isOpen = true then 1000 * b.height - 2 * c + c else 1000 * b.height - 2 * c) = heightR b c
  unfold heightR
  split <;> omega
end Go.Proofs.Ythnediamopehfaa
namespace Go.Proofs.Ythnediamopehfaa
open Go.RowKit
def tailC : Nat → Code → Code
  | n + 1, .seq _ b => tailC n b
  | _, c => c
def bodyC (f : Func) : Code := f.body.getD .skip
end Go.Proofs.Ythnediamopehfaa
namespace Go.Proofs.Ythnediamopehfaa
open Go.RowKit
theorem range_block {W : World} {b : Nat} {cs : Array Value} {T : TypeId} {p : Nat × Nat} (hb : W.heap[b]? = some (.cells cs T p)) : W.rangeAt b 0 cs.toList := by
  intro j v hj
  rw [Nat.zero_add, Joins.cell_of_block hb j, ← hj, Array.getElem?_toList]
theorem run_load_block {P : Program} {W : World} {b : Nat} {cs : Array Value} {T : TypeId} {p : Nat × Nat} {ty : TypeId} {d : TypeDesc} (hb : W.heap[b]? = some (.cells cs T p)) (hu : P.underlying ty = some d) (hd : d.isRow = true) (hi : (P.info? ty).map (·.size) = some cs.size) :
    (Instr.loadAt ty (.pointer (some ⟨b, 0, none⟩))).run P W = .ok (.agg cs) W := by
  have h := run_loadAt_mid (P := P) W b 0 ty cs.toList d (range_block hb) hu hd (by rw [Array.length_toList]; exact hi)
  rw [Array.toArray_toList] at h
  exact h
theorem opl {P : Program} {ops : Array Oper} {Q : Exit → Act → World → Prop} {i : Nat} {a : Act} {W : World} {R : Value → World → Prop} {o : Oper} {ty : TypeId} {x : Operand} {b : Nat} {cs : Array Value} {T : TypeId} {p : Nat × Nat} {d : TypeDesc}
    (ho : ops[i]? = some o) (hg : o.guard = none) (hop : o.op = .load ty x) (hx : a.eval x = .pointer (some ⟨b, 0, none⟩)) (hb : W.heap[b]? = some (.cells cs T p)) (hu : P.underlying ty = some d) (hd : d.isRow = true) (hi : (P.info? ty).map (·.size) = some cs.size) (hR : R (.agg cs) W) : OpDo P ops Q i a W R := by
  refine opv ho hg ?_ hR
  unfold execOp
  simp only [hop, hx, Sem.run_bind, run_load_block hb hu hd hi, Result.andThen_ok, Sem.run_pure]
end Go.Proofs.Ythnediamopehfaa
