/- Part of the proof: what the claim leans on. -/
import Derived.Test.YtcgccflcjejlhaaDAP
import Derived.Test.YtcgccflcjejlhaaDAQ
import Derived.Test.YtcgccflcjejlhaaDAC
set_option linter.unusedSimpArgs false
set_option linter.unusedVariables false
namespace Go.Proofs.Ytcgccflcjejlhaa
open Go.RowKit
set_option maxRecDepth 100000 in
set_option maxHeartbeats 400000 in
theorem arm_span (lo hi : Int) (w : World) :
  Calls Try.prog 9 #[.int .i64 lo, .int .i64 hi] w (fun e w' => e = .returned (.agg #[.int .i64 lo, .int .i64 hi]) ∧ Below w.heap.size w w') := by
 refine calls_fr Try.func9 Try.ntmps9 rfl rfl fun g hg => ?_
 have k0 : g 0 = .int .i64 lo := hg 0
 have k1 : g 1 = .int .i64 hi := hg 1
 clear hg
 have fB0 : Below w.heap.size w w := Below.refl _ _
 refine wp_seq_k fun K1 hK1 => ?_
 refine region_dk 1 [(4, 0)] [[]] (rel [bx 0 #[.int .i64 0, .int .i64 0] 43])
  ⟨bx_k, trivial⟩
  ⟨fun f s W c d h i j a => opb rfl rfl (by simp [go_sem]), trivial⟩ ?_
 intro f1 s1 W1 hB1 g1 hg1
 have fB1 := hB1.f fB0
 have z1 := hB1.below.size
 obtain ⟨r1_0, br1_0⟩ := hB1.is 0
 have lr1_0 := hB1.lr 0 br1_0
 refine hK1 _ _ ?_
 have k1_0 := kt hg1 0 k0
 have k1_1 := kt hg1 1 k1
 have k1_4 := kt hg1 4 r1_0
 refine wp_seq_k fun K2 hK2 => ?_
 refine region_dk 3 [(5, 0), (6, 1), (7, 2)] [[], [], [0, 1], [0, 1, 2]] (rel [is (.int .i64 lo),
   is (.int .i64 hi),
   is (.agg #[.int .i64 lo, .int .i64 hi])])
  ⟨is_k, is_k, is_k, trivial⟩
  ⟨fun f s W c d h i j a => opv rfl rfl (by simp [go_sem, a.e 0 k1_0]) rfl,
  fun f s W c d h i j a => opv rfl rfl (by simp [go_sem, a.e 1 k1_1]) rfl,
  fun f s W c d h i j a => opv rfl rfl (by simp [go_sem, a.e 5 (d 0 rfl), a.e 6 (d 1 rfl)]) rfl, trivial⟩ ?_
 intro f2 s2 W2 hB2 g2 hg2
 have fB2 := hB2.f fB1
 have z2 := hB2.below.size
 have b2_0 := hB2.b br1_0
 have k2_4 := kt hg2 4 k1_4
 have k2_7 := kt hg2 7 (hB2.is 2)
 obtain ⟨W3, hW3⟩ : ∃ W', W' = W2.setRow (s1 0) #[.int .i64 lo, .int .i64 hi] := ⟨_, rfl⟩
 refine tail_skip (o := _) rfl ⟨rfl, rfl⟩ (run_seg hW3 (fr_ev k2_4) (fr_ev k2_7) b2_0 rfl rfl rfl rfl) ?_
 obtain ⟨fB3, nb3, ot3, z3⟩ := seg_facts hW3 fB2 b2_0 (by omega)
 clear hW3
 refine wpOps_end ?_
 refine hK2 _ _ ?_
 refine wp_ret ?_
 refine leave_gen (v := .agg #[.int .i64 lo, .int .i64 hi]) (.inr rfl) (by simp [results, Try.results9, go_sem, frv 8 k2_4, cl nb3 0, cl nb3 1]) ?_
 exact ⟨rfl, fB3⟩
set_option maxRecDepth 100000 in
set_option maxHeartbeats 400000 in
theorem arm_ints_own (a : Option Addr) (c nn : Nat) (xs : List Int) (w : World) (h : Ii w a nn c xs) (hn : nn ≤ 1000) (h0 : 0 < nn) :
  Calls Try.prog 6 #[.slice (a) (nn) (c)] w (OwIP xs nn w) := by
 refine calls_fr Try.func6 Try.ntmps6 rfl rfl fun g hg => ?_
 have k0 : g 0 = .slice (a) (nn) (c) := hg 0
 clear hg
 have fB0 : Below w.heap.size w w := Below.refl _ _
 refine wp_seq_k fun K1 hK1 => ?_
 refine region_dk 1 [(2, 0)] [[]] (rel [is (.slice (none) (0) (0))])
  ⟨is_k, trivial⟩
  ⟨fun f s W d i j l m b => opv rfl rfl (by simp [go_sem]) rfl, trivial⟩ ?_
 intro f1 s1 W1 hB1 g1 hg1
 have fB1 := hB1.f fB0
 have z1 := hB1.below.size
 refine hK1 _ _ ?_
 have k1_0 := kt hg1 0 k0
 have k1_2 := kt hg1 2 (hB1.is 0)
 refine wp_seq_k fun K2 hK2 => ?_
 refine region_dk 4 [(3, 0), (4, 1), (5, 2), (2, 3)] [[], [], [0, 1], [0, 1, 2]] (rel [row 0 0 #[] 3,
   is (.slice (a) (nn) (c)),
   fun v s W => OwI (s 2) (xs) nn v W,
   fun v s W => OwI (s 2) (xs) nn v W])
  ⟨row_k, is_k, ⟨fun v k W W' hb h => h.below hb, fun v s s' W e h => by have h' : OwI (s 2) (xs) nn v W := h; show OwI (s' 2) (xs) nn v W; rw [← e 2 (by simp)]; exact h'⟩, ⟨fun v k W W' hb h => h.below hb, fun v s s' W e h => by have h' : OwI (s 2) (xs) nn v W := h; show OwI (s' 2) (xs) nn v W; rw [← e 2 (by simp)]; exact h'⟩, trivial⟩
  ⟨fun f s W d i j l m b => opr rfl rfl (by simp [go_sem]),
  fun f s W d i j l m b => opv rfl rfl (by simp [go_sem, b.e 0 k1_0]) rfl,
  fun f s W d i j l m b => by have n := below_trans fB1 d; obtain ⟨v_, W_, r_, b_, i_⟩ := cloneO_run 25 W (s 0) (a) (c) (xs) nn ((h.below n (Nat.le_refl _))) (hn) (h0) (i 0 rfl).2; exact opDo_value rfl rfl (run_appendOp (b.v 3 (i 0 rfl).1) (b.v 4 (i 1 rfl)) r_) b_ (show OwI (upd s 2 W.heap.size 2) (xs) nn v_ W_ from by rw [upd_at]; exact i_),
  fun f s W d i j l m b => opv (v := (f 2)) rfl rfl (by simp [go_sem, (b.at' 5 rfl : m.tmps[5]?.getD undef = f 2)] <;> rfl) (i 2 rfl), trivial⟩ ?_
 intro f2 s2 W2 hB2 g2 hg2
 have fB2 := hB2.f fB1
 have z2 := hB2.below.size
 obtain ⟨r2_0, br2_0⟩ := hB2.is 0
 have lr2_0 := hB2.lr 0 br2_0
 obtain ⟨g53', c54', r2_3, q55'⟩ := hB2.is 3
 have la2_3 := hB2.from' 2 (by decide)
 have lo2_3_o := q55'.lim
 have q56' := q55'.low (B' := w.heap.size) (Nat.le_trans fB1.size (la2_3))
 refine hK2 _ _ ?_
 have k2_2 := kt hg2 2 r2_3
 refine wp_ret ?_
 refine leave_one (N := 6) (v := .slice (some ⟨g53', 0, none⟩) (nn) (c54')) (.inr rfl) Try.results6 rfl k2_2 ?_
 exact ⟨_, rfl, ⟨_, _, rfl, q56'⟩, fB2⟩
set_option maxRecDepth 100000 in
set_option maxHeartbeats 4000000 in
theorem hours_ex (w : World) :
  Calls Try.prog 29 #[.agg #[.int .i64 10, .int .i64 4], .agg #[.int .i64 60, .int .i64 70], .agg #[.int .i64 90, .int .i64 100], .agg #[.int .i64 50, .int .i64 85]] w (fun e w' => e = .returned (.tuple #[.int .i64 1, .int .i64 0]) ∧ Below w.heap.size w w') := by
 refine calls_fr Try.func29 Try.ntmps29 rfl rfl fun g hg => ?_
 have k0 : g 0 = .agg #[.int .i64 10, .int .i64 4] := hg 0
 have k1 : g 1 = .agg #[.int .i64 60, .int .i64 70] := hg 1
 have k2 : g 2 = .agg #[.int .i64 90, .int .i64 100] := hg 2
 have k3 : g 3 = .agg #[.int .i64 50, .int .i64 85] := hg 3
 clear hg
 have fB0 : Below w.heap.size w w := Below.refl _ _
 refine wp_seq_k fun K1 hK1 => ?_
 refine region_dk 6 [(4, 0), (5, 1), (6, 2), (7, 3), (8, 4), (9, 5)] [[], [], [], [], [], [4]] (rel [bx 0 #[.int .i64 10, .int .i64 4] 41,
   bx 1 #[.int .i64 60, .int .i64 70] 43,
   bx 2 #[.int .i64 90, .int .i64 100] 43,
   bx 3 #[.int .i64 50, .int .i64 85] 43,
   is (.int .i64 0),
   is (.int .i64 0)])
  ⟨bx_k, bx_k, bx_k, bx_k, is_k, is_k, trivial⟩
  ⟨fun f s W j k l m n a => opb rfl rfl (by simp [go_sem, a.e 0 k0]),
  fun f s W j k l m n a => opb rfl rfl (by simp [go_sem, a.e 1 k1]),
  fun f s W j k l m n a => opb rfl rfl (by simp [go_sem, a.e 2 k2]),
  fun f s W j k l m n a => opb rfl rfl (by simp [go_sem, a.e 3 k3]),
  fun f s W j k l m n a => opv rfl rfl (by simp [go_sem]) rfl,
  fun f s W j k l m n a => opv rfl rfl (by simp [go_sem]) rfl, trivial⟩ ?_
 intro f1 s1 W1 hB1 g1 hg1
 have fB1 := hB1.f fB0
 have z1 := hB1.below.size
 obtain ⟨r1_0, br1_0⟩ := hB1.is 0
 have lr1_0 := hB1.lr 0 br1_0
 obtain ⟨r1_1, br1_1⟩ := hB1.is 1
 have lr1_1 := hB1.lr 1 br1_1
 obtain ⟨r1_2, br1_2⟩ := hB1.is 2
 have lr1_2 := hB1.lr 2 br1_2
 obtain ⟨r1_3, br1_3⟩ := hB1.is 3
 have lr1_3 := hB1.lr 3 br1_3
 have ne1_0_1 := hB1.nb 0 1
 have ne1_0_2 := hB1.nb 0 2
 have ne1_1_2 := hB1.nb 1 2
 have ne1_0_3 := hB1.nb 0 3
 have ne1_1_3 := hB1.nb 1 3
 have ne1_2_3 := hB1.nb 2 3
 refine hK1 _ _ ?_
 have k1_4 := kt hg1 4 r1_0
 have k1_5 := kt hg1 5 r1_1
 have k1_6 := kt hg1 6 r1_2
 have k1_7 := kt hg1 7 r1_3
 have k1_8 := kt hg1 8 (hB1.is 4)
 have k1_9 := kt hg1 9 (hB1.is 5)
 refine wp_seq_k fun K2 hK2 => ?_
 refine wp_block ?_
 refine wp_seq_k fun K3 hK3 => ?_
 refine region_dk 4 [(12, 0), (13, 1), (14, 2), (11, 3)] [[], [0], [0, 1], [0, 1, 2]] (rel [is (.agg #[.int .i64 10, .int .i64 4]),
   is (.bool true),
   is (.bool false),
   is (.bool false)])
  ⟨is_k, is_k, is_k, is_k, trivial⟩
  ⟨fun f s W j k l m n a => opv rfl rfl (by simp [go_sem, a.e 4 k1_4, cb br1_0 j 0, cb br1_0 j 1]) rfl,
  fun f s W j k l m n a => opc rfl rfl (by simp [go_sem, a.e 12 (k 0 rfl)]) (isRule_yes (10) (4) W (by decide) (by decide)),
  fun f s W j k l m n a => opv rfl rfl (by simp [go_sem, a.e 13 (k 1 rfl)]) rfl,
  fun f s W j k l m n a => opv rfl rfl (by simp [go_sem, a.e 14 (k 2 rfl)]) rfl, trivial⟩ ?_
 intro f2 s2 W2 hB2 g2 hg2
 have fB2 := hB2.f fB1
 have z2 := hB2.below.size
 have b2_0 := hB2.b br1_0
 have b2_1 := hB2.b br1_1
 have b2_2 := hB2.b br1_2
 have b2_3 := hB2.b br1_3
 refine hK3 _ _ ?_
 have k2_4 := kt hg2 4 k1_4
 have k2_5 := kt hg2 5 k1_5
 have k2_6 := kt hg2 6 k1_6
 have k2_7 := kt hg2 7 k1_7
 have k2_8 := kt hg2 8 k1_8
 have k2_9 := kt hg2 9 k1_9
 have k2_11 := kt hg2 11 (hB2.is 3)
 refine wp_cond_false ((fr_eval rfl).trans k2_11) ?_
 refine wp_seq_k fun K5 hK5 => ?_
 refine region_dk 7 [(16, 0), (17, 1), (18, 2), (19, 3), (20, 4), (21, 5), (15, 6)] [[], [], [], [0, 1, 2], [0, 1, 2, 3], [0, 1, 2, 3, 4], [0, 1, 2, 3, 4, 5]] (rel [is (.agg #[.int .i64 60, .int .i64 70]),
   is (.agg #[.int .i64 90, .int .i64 100]),
   is (.agg #[.int .i64 50, .int .i64 85]),
   row 3 3 #[.int .i64 60, .int .i64 70, .int .i64 90, .int .i64 100, .int .i64 50, .int .i64 85] 43,
   is (.bool true),
   is (.bool false),
   is (.bool false)])
  ⟨is_k, is_k, is_k, row_k, is_k, is_k, is_k, trivial⟩
  ⟨fun f s W j k l m n a => opv rfl rfl (by simp [go_sem, a.e 5 k2_5, cb b2_1 j 0, cb b2_1 j 1]) rfl,
  fun f s W j k l m n a => opv rfl rfl (by simp [go_sem, a.e 6 k2_6, cb b2_2 j 0, cb b2_2 j 1]) rfl,
  fun f s W j k l m n a => opv rfl rfl (by simp [go_sem, a.e 7 k2_7, cb b2_3 j 0, cb b2_3 j 1]) rfl,
  fun f s W j k l m n a => opr rfl rfl (by simp [go_sem, a.e 16 (k 0 rfl), a.e 17 (k 1 rfl), a.e 18 (k 2 rfl)]),
  fun f s W j k l m n a => opc (args := #[.slice (some ⟨(s 3), 0, none⟩) (3) (3)]) rfl rfl (by simp [go_sem, a.e 19 (k 3 rfl).1]) (moist_yes (fun i => if i = 0 then (60, 70) else if i = 1 then (90, 100) else (50, 85)) (s 3) 0 3 3 W (spR3 (k 3 rfl).2) (fun i hi => by match i, hi with | 0, _ => exact ⟨by show 0 ≤ 60 ∧ 60 ≤ 70 ∧ 70 ≤ 300; omega⟩ | 1, _ => exact ⟨by show 0 ≤ 90 ∧ 90 ≤ 100 ∧ 100 ≤ 300; omega⟩ | 2, _ => exact ⟨by show 0 ≤ 50 ∧ 50 ≤ 85 ∧ 85 ≤ 300; omega⟩) (by decide)),
  fun f s W j k l m n a => opv rfl rfl (by simp [go_sem, a.e 20 (k 4 rfl)]) rfl,
  fun f s W j k l m n a => opv rfl rfl (by simp [go_sem, a.e 21 (k 5 rfl)]) rfl, trivial⟩ ?_
 intro f3 s3 W3 hB3 g3 hg3
 have fB3 := hB3.f fB2
 have z3 := hB3.below.size
 have b3_0 := hB3.b b2_0
 have b3_1 := hB3.b b2_1
 have b3_2 := hB3.b b2_2
 have b3_3 := hB3.b b2_3
 obtain ⟨r3_3, br3_3⟩ := hB3.is 3
 have lr3_3 := hB3.lr 3 br3_3
 refine hK5 _ _ ?_
 have k3_4 := kt hg3 4 k2_4
 have k3_5 := kt hg3 5 k2_5
 have k3_6 := kt hg3 6 k2_6
 have k3_7 := kt hg3 7 k2_7
 have k3_8 := kt hg3 8 k2_8
 have k3_9 := kt hg3 9 k2_9
 have k3_15 := kt hg3 15 (hB3.is 6)
 refine wp_cond_false ((fr_eval rfl).trans k3_15) ?_
 refine wp_seq_k fun K7 hK7 => ?_
 refine region_dk 6 [(23, 0), (24, 1), (25, 2), (26, 3), (27, 4), (22, 5)] [[], [0], [], [0, 1, 2], [0, 1, 2, 3], [0, 1, 2, 3, 4]] (rel [is (.agg #[.int .i64 60, .int .i64 70]),
   is (.agg #[.int .i64 60, .int .i64 70]),
   is (.agg #[.int .i64 50, .int .i64 85]),
   is (.bool true),
   is (.bool false),
   is (.bool false)])
  ⟨is_k, is_k, is_k, is_k, is_k, is_k, trivial⟩
  ⟨fun f s W j k l m n a => opv rfl rfl (by simp [go_sem, a.e 5 k3_5, cb b3_1 j 0, cb b3_1 j 1]) rfl,
  fun f s W j k l m n a => opv rfl rfl (by simp [go_sem, a.e 23 (k 0 rfl)]) rfl,
  fun f s W j k l m n a => opv rfl rfl (by simp [go_sem, a.e 7 k3_7, cb b3_3 j 0, cb b3_3 j 1]) rfl,
  fun f s W j k l m n a => opDo_call rfl rfl (by simp [go_sem, a.e 24 (k 1 rfl), a.e 25 (k 2 rfl)]) (lies_any (60) (70) (50) (85) W) ((fun e W' h => by have h1 := h.1; rw [show (decide ((50 : Int) ≤ 60) && decide ((70 : Int) ≤ 85)) = true by decide] at h1; exact ⟨_, h1, h.2, rfl⟩)),
  fun f s W j k l m n a => opv rfl rfl (by simp [go_sem, a.e 26 (k 3 rfl)]) rfl,
  fun f s W j k l m n a => opv rfl rfl (by simp [go_sem, a.e 27 (k 4 rfl)]) rfl, trivial⟩ ?_
 intro f4 s4 W4 hB4 g4 hg4
 have fB4 := hB4.f fB3
 have z4 := hB4.below.size
 have b4_0 := hB4.b b3_0
 have b4_1 := hB4.b b3_1
 have b4_2 := hB4.b b3_2
 have b4_3 := hB4.b b3_3
 have b4_4 := hB4.b br3_3
 refine hK7 _ _ ?_
 have k4_4 := kt hg4 4 k3_4
 have k4_5 := kt hg4 5 k3_5
 have k4_6 := kt hg4 6 k3_6
 have k4_7 := kt hg4 7 k3_7
 have k4_8 := kt hg4 8 k3_8
 have k4_9 := kt hg4 9 k3_9
 have k4_22 := kt hg4 22 (hB4.is 5)
 refine wp_cond_false ((fr_eval rfl).trans k4_22) ?_
 refine wp_skip ?_
 refine inBlock_normal ?_
 refine hK2 _ _ ?_
 refine wp_seq_k fun K9 hK9 => ?_
 refine region_dk 1 [(10, 0)] [[]] (rel [is (.int .i64 0)])
  ⟨is_k, trivial⟩
  ⟨fun f s W j k l m n a => opv rfl rfl (by simp [go_sem]) rfl, trivial⟩ ?_
 intro f5 s5 W5 hB5 g5 hg5
 have fB5 := hB5.f fB4
 have z5 := hB5.below.size
 have b5_0 := hB5.b b4_0
 have b5_1 := hB5.b b4_1
 have b5_2 := hB5.b b4_2
 have b5_3 := hB5.b b4_3
 have b5_4 := hB5.b b4_4
 refine hK9 _ _ ?_
 have k5_4 := kt hg5 4 k4_4
 have k5_5 := kt hg5 5 k4_5
 have k5_6 := kt hg5 6 k4_6
 have k5_7 := kt hg5 7 k4_7
 have k5_8 := kt hg5 8 k4_8
 have k5_9 := kt hg5 9 k4_9
 have k5_10 := kt hg5 10 (hB5.is 0)
 refine wp_seq_k fun K10 hK10 => ?_
 refine wp_block ?_
 refine wp_loop_rounds 3 ?_
 rw [rounds_succ]
 refine wp_seq_k fun K11 hK11 => ?_
 refine wp_seq_k fun K12 hK12 => ?_
 refine region_dk 13 [(28, 0), (29, 1), (30, 2), (31, 3), (32, 4), (33, 5), (34, 6), (35, 7), (36, 8), (37, 9), (38, 10), (39, 11), (40, 12)] [[], [0], [0, 1], [0, 1, 2], [0, 1, 2, 3], [0, 1, 2], [0, 1, 2], [0, 1, 2], [0, 1, 2, 7], [0, 1, 2, 3, 4, 5, 6, 7, 8], [0, 1, 2], [0, 1, 2, 3, 4, 5, 6, 7, 8, 9, 10], [0, 1, 2, 3, 4, 5, 6, 7, 8, 9, 10, 11]] (rel [is (.int .i64 0),
   is (.bool true),
   is (.bool true),
   is (.agg #[.int .i64 60, .int .i64 70]),
   is (.agg #[.int .i64 60, .int .i64 70]),
   is (.agg #[.int .i64 10, .int .i64 4]),
   is (.agg #[.int .i64 90, .int .i64 100]),
   is (.int .i64 0),
   is (.int .i64 1),
   is (.agg #[.int .i64 70, .int .i64 80]),
   is (.agg #[.int .i64 50, .int .i64 85]),
   is (.bool true),
   is (.bool true)])
  ⟨is_k, is_k, is_k, is_k, is_k, is_k, is_k, is_k, is_k, is_k, is_k, is_k, is_k, trivial⟩
  ⟨fun f s W j k l m n a => opv rfl rfl (by simp [go_sem, a.e 10 k5_10]) rfl,
  fun f s W j k l m n a => opv rfl rfl (by simp [go_sem, a.e 28 (k 0 rfl)]) rfl,
  fun f s W j k l m n a => opv rfl rfl (by simp [go_sem, a.e 29 (k 1 rfl)]) rfl,
  fun f s W j k l m n a => osure rfl rfl (a.says (d := 30) rfl rfl (k 2 rfl)) (gv (by simp [go_sem, a.e 5 k5_5, cb b5_1 j 0, cb b5_1 j 1]) rfl),
  fun f s W j k l m n a => osure rfl rfl (a.says (d := 30) rfl rfl (k 2 rfl)) (gv (by simp [go_sem, a.e 31 (k 3 rfl)]) rfl),
  fun f s W j k l m n a => osure rfl rfl (a.says (d := 30) rfl rfl (k 2 rfl)) (gv (by simp [go_sem, a.e 4 k5_4, cb b5_0 j 0, cb b5_0 j 1]) rfl),
  fun f s W j k l m n a => osure rfl rfl (a.says (d := 30) rfl rfl (k 2 rfl)) (gv (by simp [go_sem, a.e 6 k5_6, cb b5_2 j 0, cb b5_2 j 1]) rfl),
  fun f s W j k l m n a => osure rfl rfl (a.says (d := 30) rfl rfl (k 2 rfl)) (gv (by simp [go_sem, a.e 10 k5_10]) rfl),
  fun f s W j k l m n a => osure rfl rfl (a.says (d := 30) rfl rfl (k 2 rfl)) (gv (by simp [go_sem, a.e 35 (k 7 rfl), IntWalk.i64_in (1) (by omega)]) rfl),
  fun f s W j k l m n a => osure rfl rfl (a.says (d := 30) rfl rfl (k 2 rfl)) (wp_called (by simp [go_sem, a.e 32 (k 4 rfl), a.e 33 (k 5 rfl), a.e 34 (k 6 rfl), a.e 36 (k 8 rfl)]) (hours_any 10 4 60 70 90 100 (1) W (by decide) (by decide) ⟨by decide⟩ ⟨by decide⟩ (by decide)) ((fun e W' h => by have h1 := h.1; rw [show towF 10 4 60 90 (1) = 70 by decide, show towF 10 4 70 100 (1) = 80 by decide] at h1; exact ⟨_, h1, h.2, rfl⟩))),
  fun f s W j k l m n a => osure rfl rfl (a.says (d := 30) rfl rfl (k 2 rfl)) (gv (by simp [go_sem, a.e 7 k5_7, cb b5_3 j 0, cb b5_3 j 1]) rfl),
  fun f s W j k l m n a => osure rfl rfl (a.says (d := 30) rfl rfl (k 2 rfl)) (wp_called (by simp [go_sem, a.e 37 (k 9 rfl), a.e 38 (k 10 rfl)]) (lies_any (70) (80) (50) (85) W) ((fun e W' h => by have h1 := h.1; rw [show (decide ((50 : Int) ≤ 70) && decide ((80 : Int) ≤ 85)) = true by decide] at h1; exact ⟨_, h1, h.2, rfl⟩))),
  fun f s W j k l m n a => opk (c := true) rfl rfl (fun h => absurd h (by decide)) (fun _ => by simp [go_sem, a.e 30 (k 2 rfl), a.e 39 (k 11 rfl)]), trivial⟩ ?_
 intro f6 s6 W6 hB6 g6 hg6
 have fB6 := hB6.f fB5
 have z6 := hB6.below.size
 have b6_0 := hB6.b b5_0
 have b6_1 := hB6.b b5_1
 have b6_2 := hB6.b b5_2
 have b6_3 := hB6.b b5_3
 have b6_4 := hB6.b b5_4
 refine hK12 _ _ ?_
 have k6_4 := kt hg6 4 k5_4
 have k6_5 := kt hg6 5 k5_5
 have k6_6 := kt hg6 6 k5_6
 have k6_7 := kt hg6 7 k5_7
 have k6_8 := kt hg6 8 k5_8
 have k6_9 := kt hg6 9 k5_9
 have k6_10 := kt hg6 10 k5_10
 have k6_40 := kt hg6 40 (hB6.is 12)
 refine wp_cond_true ((fr_eval rfl).trans k6_40) ?_
 refine wp_skip ?_
 refine hK11 _ _ ?_
 refine wp_block ?_
 refine region_dk 3 [(41, 0), (42, 1), (10, 2)] [[], [0], [0, 1]] (rel [is (.int .i64 0),
   is (.int .i64 1),
   is (.int .i64 1)])
  ⟨is_k, is_k, is_k, trivial⟩
  ⟨fun f s W j k l m n a => opv rfl rfl (by simp [go_sem, a.e 10 ((m 2 10 rfl rfl).trans k6_10)]) rfl,
  fun f s W j k l m n a => opv rfl rfl (by simp [go_sem, a.e 41 (k 0 rfl), IntWalk.i64_in (1) (by omega)]) rfl,
  fun f s W j k l m n a => opv rfl rfl (by simp [go_sem, a.e 42 (k 1 rfl)]) rfl, trivial⟩ ?_
 intro f7 s7 W7 hB7 g7 hg7
 have fB7 := hB7.f fB6
 have z7 := hB7.below.size
 have b7_0 := hB7.b b6_0
 have b7_1 := hB7.b b6_1
 have b7_2 := hB7.b b6_2
 have b7_3 := hB7.b b6_3
 have b7_4 := hB7.b b6_4
 refine wpOps_end ?_
 have k7_4 := kt hg7 4 k6_4
 have k7_5 := kt hg7 5 k6_5
 have k7_6 := kt hg7 6 k6_6
 have k7_7 := kt hg7 7 k6_7
 have k7_8 := kt hg7 8 k6_8
 have k7_9 := kt hg7 9 k6_9
 have k7_40 := kt hg7 40 k6_40
 have k7_10 := kt hg7 10 (hB7.is 2)
 refine inBlock_normal ?_
 refine then_normal ?_
 rw [rounds_succ]
 refine wp_seq_k fun K14 hK14 => ?_
 refine wp_seq_k fun K15 hK15 => ?_
 refine region_dk 13 [(28, 0), (29, 1), (30, 2), (31, 3), (32, 4), (33, 5), (34, 6), (35, 7), (36, 8), (37, 9), (38, 10), (39, 11), (40, 12)] [[], [0], [0, 1], [0, 1, 2], [0, 1, 2, 3], [0, 1, 2], [0, 1, 2], [0, 1, 2], [0, 1, 2, 7], [0, 1, 2, 3, 4, 5, 6, 7, 8], [0, 1, 2], [0, 1, 2, 3, 4, 5, 6, 7, 8, 9, 10], [0, 1, 2, 3, 4, 5, 6, 7, 8, 9, 10, 11]] (rel [is (.int .i64 1),
   is (.bool true),
   is (.bool true),
   is (.agg #[.int .i64 60, .int .i64 70]),
   is (.agg #[.int .i64 60, .int .i64 70]),
   is (.agg #[.int .i64 10, .int .i64 4]),
   is (.agg #[.int .i64 90, .int .i64 100]),
   is (.int .i64 1),
   is (.int .i64 2),
   is (.agg #[.int .i64 80, .int .i64 90]),
   is (.agg #[.int .i64 50, .int .i64 85]),
   is (.bool false),
   is (.bool false)])
  ⟨is_k, is_k, is_k, is_k, is_k, is_k, is_k, is_k, is_k, is_k, is_k, is_k, is_k, trivial⟩
  ⟨fun f s W j k l m n a => opv rfl rfl (by simp [go_sem, a.e 10 k7_10]) rfl,
  fun f s W j k l m n a => opv rfl rfl (by simp [go_sem, a.e 28 (k 0 rfl)]) rfl,
  fun f s W j k l m n a => opv rfl rfl (by simp [go_sem, a.e 29 (k 1 rfl)]) rfl,
  fun f s W j k l m n a => osure rfl rfl (a.says (d := 30) rfl rfl (k 2 rfl)) (gv (by simp [go_sem, a.e 5 k7_5, cb b7_1 j 0, cb b7_1 j 1]) rfl),
  fun f s W j k l m n a => osure rfl rfl (a.says (d := 30) rfl rfl (k 2 rfl)) (gv (by simp [go_sem, a.e 31 (k 3 rfl)]) rfl),
  fun f s W j k l m n a => osure rfl rfl (a.says (d := 30) rfl rfl (k 2 rfl)) (gv (by simp [go_sem, a.e 4 k7_4, cb b7_0 j 0, cb b7_0 j 1]) rfl),
  fun f s W j k l m n a => osure rfl rfl (a.says (d := 30) rfl rfl (k 2 rfl)) (gv (by simp [go_sem, a.e 6 k7_6, cb b7_2 j 0, cb b7_2 j 1]) rfl),
  fun f s W j k l m n a => osure rfl rfl (a.says (d := 30) rfl rfl (k 2 rfl)) (gv (by simp [go_sem, a.e 10 k7_10]) rfl),
  fun f s W j k l m n a => osure rfl rfl (a.says (d := 30) rfl rfl (k 2 rfl)) (gv (by simp [go_sem, a.e 35 (k 7 rfl), IntWalk.i64_in (2) (by omega)]) rfl),
  fun f s W j k l m n a => osure rfl rfl (a.says (d := 30) rfl rfl (k 2 rfl)) (wp_called (by simp [go_sem, a.e 32 (k 4 rfl), a.e 33 (k 5 rfl), a.e 34 (k 6 rfl), a.e 36 (k 8 rfl)]) (hours_any 10 4 60 70 90 100 (2) W (by decide) (by decide) ⟨by decide⟩ ⟨by decide⟩ (by decide)) ((fun e W' h => by have h1 := h.1; rw [show towF 10 4 60 90 (2) = 80 by decide, show towF 10 4 70 100 (2) = 90 by decide] at h1; exact ⟨_, h1, h.2, rfl⟩))),
  fun f s W j k l m n a => osure rfl rfl (a.says (d := 30) rfl rfl (k 2 rfl)) (gv (by simp [go_sem, a.e 7 k7_7, cb b7_3 j 0, cb b7_3 j 1]) rfl),
  fun f s W j k l m n a => osure rfl rfl (a.says (d := 30) rfl rfl (k 2 rfl)) (wp_called (by simp [go_sem, a.e 37 (k 9 rfl), a.e 38 (k 10 rfl)]) (lies_any (80) (90) (50) (85) W) ((fun e W' h => by have h1 := h.1; rw [show (decide ((50 : Int) ≤ 80) && decide ((90 : Int) ≤ 85)) = false by decide] at h1; exact ⟨_, h1, h.2, rfl⟩))),
  fun f s W j k l m n a => opk (c := true) rfl rfl (fun h => absurd h (by decide)) (fun _ => by simp [go_sem, a.e 30 (k 2 rfl), a.e 39 (k 11 rfl)]), trivial⟩ ?_
 intro f8 s8 W8 hB8 g8 hg8
 have fB8 := hB8.f fB7
 have z8 := hB8.below.size
 have b8_0 := hB8.b b7_0
 have b8_1 := hB8.b b7_1
 have b8_2 := hB8.b b7_2
 have b8_3 := hB8.b b7_3
 have b8_4 := hB8.b b7_4
 refine hK15 _ _ ?_
 have k8_4 := kt hg8 4 k7_4
 have k8_5 := kt hg8 5 k7_5
 have k8_6 := kt hg8 6 k7_6
 have k8_7 := kt hg8 7 k7_7
 have k8_8 := kt hg8 8 k7_8
 have k8_9 := kt hg8 9 k7_9
 have k8_10 := kt hg8 10 k7_10
 have k8_40 := kt hg8 40 (hB8.is 12)
 refine wp_cond_false ((fr_eval rfl).trans k8_40) ?_
 refine wp_exit ?_
 refine then_exit ?_
 refine then_exit ?_
 refine inBlock_at ?_
 refine hK10 _ _ ?_
 refine wp_seq_k fun K17 hK17 => ?_
 refine region_dk 3 [(43, 0), (8, 1), (9, 2)] [[], [0], [0, 1]] (rel [is (.int .i64 1),
   is (.int .i64 1),
   is (.int .i64 0)])
  ⟨is_k, is_k, is_k, trivial⟩
  ⟨fun f s W j k l m n a => opv rfl rfl (by simp [go_sem, a.e 10 k8_10]) rfl,
  fun f s W j k l m n a => opv rfl rfl (by simp [go_sem, a.e 43 (k 0 rfl)]) rfl,
  fun f s W j k l m n a => opv rfl rfl (by simp [go_sem]) rfl, trivial⟩ ?_
 intro f9 s9 W9 hB9 g9 hg9
 have fB9 := hB9.f fB8
 have z9 := hB9.below.size
 have b9_0 := hB9.b b8_0
 have b9_1 := hB9.b b8_1
 have b9_2 := hB9.b b8_2
 have b9_3 := hB9.b b8_3
 have b9_4 := hB9.b b8_4
 refine hK17 _ _ ?_
 have k9_8 := kt hg9 8 (hB9.is 1)
 have k9_9 := kt hg9 9 (hB9.is 2)
 refine wp_ret ?_
 refine leave_gen (v := .tuple #[.int .i64 1, .int .i64 0]) (.inr rfl) (by simp [results, Try.results29, go_sem, frv 44 k9_8, frv 44 k9_9]) ?_
 exact ⟨rfl, fB9⟩
def dsEx (i : Nat) : Ds := if i = 0 then ⟨90, 100, 2⟩ else ⟨50, 60, 5⟩
theorem dsR2 {W : World} {b : Nat} {T : TypeId} (h : W.heap[b]? = some (.cells #[.int .i64 90, .int .i64 100, .int .i64 2, .int .i64 50, .int .i64 60, .int .i64 5] T (0, 0))) : DsR W b 0 2 dsEx :=
  ⟨lt_of_blk h, fun i hi => by
    match i, hi with
    | 0, _ => exact ⟨(Joins.cell_of_block h 0).trans rfl, (Joins.cell_of_block h 1).trans rfl, (Joins.cell_of_block h 2).trans rfl⟩
    | 1, _ => exact ⟨(Joins.cell_of_block h 3).trans rfl, (Joins.cell_of_block h 4).trans rfl, (Joins.cell_of_block h 5).trans rfl⟩⟩
theorem moEx : moF 10 4 60 70 dsEx 1 = (80, 90) ∧ moF 10 4 60 70 dsEx 2 = (60, 70) := ⟨by decide, by decide⟩
set_option maxRecDepth 100000 in
set_option maxHeartbeats 8000000 in
theorem armDamp_yes (w : World) :
  Calls Try.prog 11 #[] w (fun e w' => e = .returned (.bool true) ∧ Below w.heap.size w w') := by
 refine calls_fr Try.func11 Try.ntmps11 rfl rfl fun g hg => ?_
 clear hg
 have fB0 : Below w.heap.size w w := Below.refl _ _
 refine wp_seq_k fun K1 hK1 => ?_
 refine region_dk 1 [(0, 0)] [[]] (rel [is (.bool false)])
  ⟨is_k, trivial⟩
  ⟨fun f s W j k l m n a => opv rfl rfl (by simp [go_sem]) rfl, trivial⟩ ?_
 intro f1 s1 W1 hB1 g1 hg1
 have fB1 := hB1.f fB0
 have z1 := hB1.below.size
 refine hK1 _ _ ?_
 have k1_0 := kt hg1 0 (hB1.is 0)
 refine wp_seq_k fun K2 hK2 => ?_
 refine region_dk 13 [(6, 0), (7, 1), (8, 2), (9, 3), (10, 4), (11, 5), (12, 6), (13, 7), (5, 8), (14, 9), (15, 10), (1, 11), (2, 12)] [[], [], [1], [1, 2], [1, 2], [1, 2, 4], [1, 2, 3, 4, 5], [0, 1, 2, 3, 4, 5, 6], [0, 1, 2, 3, 4, 5, 6, 7], [0, 1, 2, 3, 4, 5, 6, 7, 8], [0, 1, 2, 3, 4, 5, 6, 7, 8], [0, 1, 2, 3, 4, 5, 6, 7, 8, 9], [0, 1, 2, 3, 4, 5, 6, 7, 8, 9, 10, 11]] (rel [is (.agg #[.int .i64 10, .int .i64 4]),
   is (.agg #[.int .i64 60, .int .i64 70]),
   is (.agg #[.int .i64 90, .int .i64 100]),
   is (.agg #[.int .i64 90, .int .i64 100, .int .i64 2]),
   is (.agg #[.int .i64 50, .int .i64 60]),
   is (.agg #[.int .i64 50, .int .i64 60, .int .i64 5]),
   row 6 2 #[.int .i64 90, .int .i64 100, .int .i64 2, .int .i64 50, .int .i64 60, .int .i64 5] 51,
   ab fun v W => ∃ x0, v = .tuple #[x0, .int .i64 0] ∧ IsSp w.heap.size 2 (fun i => moF 10 4 60 70 dsEx (i + 1)) x0 W,
   ab fun v W => ∃ x0, v = .tuple #[x0, .int .i64 0] ∧ IsSp w.heap.size 2 (fun i => moF 10 4 60 70 dsEx (i + 1)) x0 W,
   ab fun v W => IsSp w.heap.size 2 (fun i => moF 10 4 60 70 dsEx (i + 1)) v W,
   is (.int .i64 0),
   ab fun v W => IsSp w.heap.size 2 (fun i => moF 10 4 60 70 dsEx (i + 1)) v W,
   is (.int .i64 0)])
  ⟨is_k, is_k, is_k, is_k, is_k, is_k, row_k, ab_k fun v W W' hb ⟨x0, e, h0⟩ => ⟨x0, e, (h0.below hb)⟩, ab_k fun v W W' hb ⟨x0, e, h0⟩ => ⟨x0, e, (h0.below hb)⟩, ab_k fun v W W' hb h => (h.below hb), is_k, ab_k fun v W W' hb h => (h.below hb), is_k, trivial⟩
  ⟨fun f s W j k l m n a => opv rfl rfl (by simp [go_sem]) rfl,
  fun f s W j k l m n a => opc rfl rfl (by simp [go_sem]) (arm_span (60) (70) W),
  fun f s W j k l m n a => opc rfl rfl (by simp [go_sem]) (arm_span (90) (100) W),
  fun f s W j k l m n a => opv rfl rfl (by simp [go_sem, a.e 8 (k 2 rfl)]) rfl,
  fun f s W j k l m n a => opc rfl rfl (by simp [go_sem]) (arm_span (50) (60) W),
  fun f s W j k l m n a => opv rfl rfl (by simp [go_sem, a.e 10 (k 4 rfl)]) rfl,
  fun f s W j k l m n a => opr rfl rfl (by simp [go_sem, a.e 9 (k 3 rfl), a.e 11 (k 5 rfl)]),
  fun f s W j k l m n a => opDo_call (args := #[.agg #[.int .i64 10, .int .i64 4], .agg #[.int .i64 60, .int .i64 70], .slice (some ⟨(s 6), 0, none⟩) (2) (2)]) rfl rfl (by simp [go_sem, a.e 6 (k 0 rfl), a.e 7 (k 1 rfl), a.e 12 (k 6 rfl).1]) (damp_After 10 4 60 70 dsEx (s 6) 0 2 2 W (dsR2 (k 6 rfl).2) (fun i hi => by match i, hi with | 0, _ => exact ⟨by decide, by decide⟩ | 1, _ => exact ⟨by decide, by decide⟩) (by decide) (by decide) (by decide) (by decide) ⟨by decide⟩) ((fun e W' h => by obtain ⟨v, e1, ⟨b_, c_, e2, h1, h3⟩, h2⟩ := h; have := j.size; exact ⟨_, e1, h2, ⟨v, rfl, ⟨b_, c_, e2, h1, by omega⟩⟩⟩)),
  fun f s W j k l m n a => opv (v := (f 7)) rfl rfl (by simp [go_sem, (a.at' 13 rfl : n.tmps[13]?.getD undef = f 7)] <;> rfl) (k 7 rfl),
  fun f s W j k l m n a => by obtain ⟨x8_0, d8, p8_0⟩ := (k 8 rfl); exact opv (v := x8_0) rfl rfl (by simp [go_sem, a.e 5 d8]) p8_0,
  fun f s W j k l m n a => by obtain ⟨x8_0, d8, p8_0⟩ := (k 8 rfl); exact opv rfl rfl (by simp [go_sem, a.e 5 d8]) rfl,
  fun f s W j k l m n a => opv (v := (f 9)) rfl rfl (by simp [go_sem, (a.at' 14 rfl : n.tmps[14]?.getD undef = f 9)] <;> rfl) (k 9 rfl),
  fun f s W j k l m n a => opv rfl rfl (by simp [go_sem, a.e 15 (k 10 rfl)]) rfl, trivial⟩ ?_
 intro f2 s2 W2 hB2 g2 hg2
 have fB2 := hB2.f fB1
 have z2 := hB2.below.size
 obtain ⟨r2_6, br2_6⟩ := hB2.is 6
 have lr2_6 := hB2.lr 6 br2_6
 obtain ⟨b4', c5', r2_11, q6', -⟩ := hB2.is 11
 refine hK2 _ _ ?_
 have k2_0 := kt hg2 0 k1_0
 have k2_1 := kt hg2 1 r2_11
 have k2_2 := kt hg2 2 (hB2.is 12)
 refine wp_seq_k fun K3 hK3 => ?_
 refine region_dk 10 [(17, 0), (18, 1), (19, 2), (20, 3), (21, 4), (16, 5), (22, 6), (23, 7), (3, 8), (4, 9)] [[], [], [1], [1, 2], [0, 1, 2, 3], [0, 1, 2, 3, 4], [0, 1, 2, 3, 4, 5], [0, 1, 2, 3, 4, 5], [0, 1, 2, 3, 4, 5, 6], [0, 1, 2, 3, 4, 5, 6, 7, 8]] (rel [is (.agg #[.int .i64 10, .int .i64 4]),
   is (.agg #[.int .i64 60, .int .i64 70]),
   is (.agg #[.int .i64 90, .int .i64 100]),
   is (.agg #[.int .i64 50, .int .i64 85]),
   is (.tuple #[.int .i64 1, .int .i64 0]),
   is (.tuple #[.int .i64 1, .int .i64 0]),
   is (.int .i64 1),
   is (.int .i64 0),
   is (.int .i64 1),
   is (.int .i64 0)])
  ⟨is_k, is_k, is_k, is_k, is_k, is_k, is_k, is_k, is_k, is_k, trivial⟩
  ⟨fun f s W j k l m n a => opv rfl rfl (by simp [go_sem]) rfl,
  fun f s W j k l m n a => opc rfl rfl (by simp [go_sem]) (arm_span (60) (70) W),
  fun f s W j k l m n a => opc rfl rfl (by simp [go_sem]) (arm_span (90) (100) W),
  fun f s W j k l m n a => opc rfl rfl (by simp [go_sem]) (arm_span (50) (85) W),
  fun f s W j k l m n a => opc rfl rfl (by simp [go_sem, a.e 17 (k 0 rfl), a.e 18 (k 1 rfl), a.e 19 (k 2 rfl), a.e 20 (k 3 rfl)]) (hours_ex W),
  fun f s W j k l m n a => opv rfl rfl (by simp [go_sem, a.e 21 (k 4 rfl)]) rfl,
  fun f s W j k l m n a => opv rfl rfl (by simp [go_sem, a.e 16 (k 5 rfl)]) rfl,
  fun f s W j k l m n a => opv rfl rfl (by simp [go_sem, a.e 16 (k 5 rfl)]) rfl,
  fun f s W j k l m n a => opv rfl rfl (by simp [go_sem, a.e 22 (k 6 rfl)]) rfl,
  fun f s W j k l m n a => opv rfl rfl (by simp [go_sem, a.e 23 (k 7 rfl)]) rfl, trivial⟩ ?_
 intro f3 s3 W3 hB3 g3 hg3
 have fB3 := hB3.f fB2
 have z3 := hB3.below.size
 have b3_0 := hB3.b br2_6
 have q7' := (q6'.below hB3.below)
 refine hK3 _ _ ?_
 have k3_0 := kt hg3 0 k2_0
 have k3_1 := kt hg3 1 k2_1
 have k3_2 := kt hg3 2 k2_2
 have k3_3 := kt hg3 3 (hB3.is 8)
 have k3_4 := kt hg3 4 (hB3.is 9)
 refine wp_seq_k fun K4 hK4 => ?_
 refine region_dk 30 [(24, 0), (25, 1), (26, 2), (27, 3), (28, 4), (29, 5), (30, 6), (31, 7), (32, 8), (33, 9), (34, 10), (35, 11), (36, 12), (37, 13), (38, 14), (39, 15), (40, 16), (41, 17), (42, 18), (43, 19), (44, 20), (45, 21), (46, 22), (47, 23), (48, 24), (49, 25), (50, 26), (51, 27), (52, 28), (0, 29)] [[], [0], [0, 1], [0, 1, 2], [0, 1, 2, 3], [0, 1, 2, 3, 4], [0, 1, 2, 3, 4, 5], [0, 1, 2, 3, 4, 5, 6], [0, 1, 2, 3, 4, 5, 6, 7], [0, 1, 2, 3, 4, 5, 6, 7, 8], [0, 1, 2, 3, 4, 5, 6, 7, 8, 9], [0, 1, 2, 3, 4, 5, 6, 7, 8, 9, 10], [0, 1, 2, 3, 4, 5, 6, 7, 8, 9, 10, 11], [0, 1, 2, 3, 4, 5, 6, 7, 8, 9, 10, 11, 12], [0, 1, 2, 3, 4, 5, 6, 7, 8, 9, 10, 11, 12, 13], [0, 1, 2, 3, 4, 5, 6, 7, 8, 9, 10, 11], [0, 1, 2, 3, 4, 5, 6, 7, 8, 9, 10, 11, 12, 13, 14, 15], [0, 1, 2, 3, 4, 5, 6, 7, 8, 9, 10, 11, 12, 13, 14, 15, 16], [0, 1, 2, 3, 4, 5, 6, 7, 8, 9, 10, 11, 12, 13, 14, 15, 16, 17], [0, 1, 2, 3, 4, 5, 6, 7, 8, 9, 10, 11, 12, 13, 14, 15, 16, 17, 18], [0, 1, 2, 3, 4, 5, 6, 7, 8, 9, 10, 11, 12, 13, 14, 15, 16, 17, 18, 19], [0, 1, 2, 3, 4, 5, 6, 7, 8, 9, 10, 11, 12, 13, 14, 15, 16, 17, 18, 19, 20], [0, 1, 2, 3, 4, 5, 6, 7, 8, 9, 10, 11, 12, 13, 14, 15, 16, 17, 18], [0, 1, 2, 3, 4, 5, 6, 7, 8, 9, 10, 11, 12, 13, 14, 15, 16, 17, 18, 19, 20, 21, 22], [0, 1, 2, 3, 4, 5, 6, 7, 8, 9, 10, 11, 12, 13, 14, 15, 16, 17, 18, 19, 20, 21, 22, 23], [0, 1, 2, 3, 4, 5, 6, 7, 8, 9, 10, 11, 12, 13, 14, 15, 16, 17, 18, 19, 20, 21, 22, 23, 24], [0, 1, 2, 3, 4, 5, 6, 7, 8, 9, 10, 11, 12, 13, 14, 15, 16, 17, 18, 19, 20, 21, 22, 23, 24, 25], [0, 1, 2, 3, 4, 5, 6, 7, 8, 9, 10, 11, 12, 13, 14, 15, 16, 17, 18, 19, 20, 21, 22, 23, 24, 25, 26], [0, 1, 2, 3, 4, 5, 6, 7, 8, 9, 10, 11, 12, 13, 14, 15, 16, 17, 18, 19, 20, 21, 22, 23, 24, 25, 26, 27], [0, 1, 2, 3, 4, 5, 6, 7, 8, 9, 10, 11, 12, 13, 14, 15, 16, 17, 18, 19, 20, 21, 22, 23, 24, 25, 26, 27, 28]] (rel [is (.int .i64 0),
   is (.bool true),
   is (.bool true),
   is (.int .i64 0),
   is (.bool true),
   is (.bool true),
   is (.bool true),
   is (.slice (some ⟨b4', 0, none⟩) (2) (c5')),
   is (.int .i64 2),
   is (.bool true),
   is (.bool true),
   is (.bool true),
   is (.slice (some ⟨b4', 0, none⟩) (2) (c5')),
   is (.pointer (some ⟨b4', 0, none⟩)),
   is (.agg #[.int .i64 80, .int .i64 90]),
   is (.agg #[.int .i64 80, .int .i64 90]),
   is (.bool true),
   is (.bool true),
   is (.bool true),
   is (.slice (some ⟨b4', 0, none⟩) (2) (c5')),
   is (.pointer (some ⟨b4', 2, none⟩)),
   is (.agg #[.int .i64 60, .int .i64 70]),
   is (.agg #[.int .i64 60, .int .i64 70]),
   is (.bool true),
   is (.bool true),
   is (.bool true),
   is (.int .i64 1),
   is (.bool true),
   is (.bool true),
   is (.bool true)])
  ⟨is_k, is_k, is_k, is_k, is_k, is_k, is_k, is_k, is_k, is_k, is_k, is_k, is_k, is_k, is_k, is_k, is_k, is_k, is_k, is_k, is_k, is_k, is_k, is_k, is_k, is_k, is_k, is_k, is_k, is_k, trivial⟩
  ⟨fun f s W j k l m n a => opv rfl rfl (by simp [go_sem, a.e 2 k3_2]) rfl,
  fun f s W j k l m n a => opv rfl rfl (by simp [go_sem, a.e 24 (k 0 rfl)]) rfl,
  fun f s W j k l m n a => opv rfl rfl (by simp [go_sem, a.e 25 (k 1 rfl)]) rfl,
  fun f s W j k l m n a => osure rfl rfl (a.says (d := 26) rfl rfl (k 2 rfl)) (gv (by simp [go_sem, a.e 4 k3_4]) rfl),
  fun f s W j k l m n a => osure rfl rfl (a.says (d := 26) rfl rfl (k 2 rfl)) (gv (by simp [go_sem, a.e 27 (k 3 rfl)]) rfl),
  fun f s W j k l m n a => opk (c := true) rfl rfl (fun h => absurd h (by decide)) (fun _ => by simp [go_sem, a.e 26 (k 2 rfl), a.e 28 (k 4 rfl)]),
  fun f s W j k l m n a => opv rfl rfl (by simp [go_sem, a.e 29 (k 5 rfl)]) rfl,
  fun f s W j k l m n a => osure rfl rfl (a.says (d := 30) rfl rfl (k 6 rfl)) (gv (by simp [go_sem, a.e 1 k3_1]) rfl),
  fun f s W j k l m n a => osure rfl rfl (a.says (d := 30) rfl rfl (k 6 rfl)) (gv (by simp [go_sem, a.e 31 (k 7 rfl)]) rfl),
  fun f s W j k l m n a => osure rfl rfl (a.says (d := 30) rfl rfl (k 6 rfl)) (gv (by simp [go_sem, a.e 32 (k 8 rfl)]) rfl),
  fun f s W j k l m n a => opk (c := true) rfl rfl (fun h => absurd h (by decide)) (fun _ => by simp [go_sem, a.e 30 (k 6 rfl), a.e 33 (k 9 rfl)]),
  fun f s W j k l m n a => opv rfl rfl (by simp [go_sem, a.e 34 (k 10 rfl)]) rfl,
  fun f s W j k l m n a => osure rfl rfl (a.says (d := 35) rfl rfl (k 11 rfl)) (gv (by simp [go_sem, a.e 1 k3_1]) rfl),
  fun f s W j k l m n a => osure rfl rfl (a.says (d := 35) rfl rfl (k 11 rfl)) (gv (by simp [go_sem, a.e 36 (k 12 rfl)]) rfl),
  fun f s W j k l m n a => osure rfl rfl (a.says (d := 35) rfl rfl (k 11 rfl)) (by have cu_ := (q7'.below j).2 0 (by decide); have cv_ := cu_.1; have cw_ := cu_.2; rw [show ((fun i => moF 10 4 60 70 dsEx (i + 1)) 0) = (80, 90) from moEx.1] at cv_ cw_; exact gv (by simp [go_sem, a.e 37 (k 13 rfl), cv_, cw_]) rfl),
  fun f s W j k l m n a => osure rfl rfl (a.says (d := 35) rfl rfl (k 11 rfl)) (gc (by simp [go_sem]) (arm_span (80) (90) W)),
  fun f s W j k l m n a => osure rfl rfl (a.says (d := 35) rfl rfl (k 11 rfl)) (gv (by simp [go_sem, a.e 38 (k 14 rfl), a.e 39 (k 15 rfl)]) rfl),
  fun f s W j k l m n a => opk (c := true) rfl rfl (fun h => absurd h (by decide)) (fun _ => by simp [go_sem, a.e 35 (k 11 rfl), a.e 40 (k 16 rfl)]),
  fun f s W j k l m n a => opv rfl rfl (by simp [go_sem, a.e 41 (k 17 rfl)]) rfl,
  fun f s W j k l m n a => osure rfl rfl (a.says (d := 42) rfl rfl (k 18 rfl)) (gv (by simp [go_sem, a.e 1 k3_1]) rfl),
  fun f s W j k l m n a => osure rfl rfl (a.says (d := 42) rfl rfl (k 18 rfl)) (gv (by simp [go_sem, a.e 43 (k 19 rfl)]) rfl),
  fun f s W j k l m n a => osure rfl rfl (a.says (d := 42) rfl rfl (k 18 rfl)) (by have cu_ := (q7'.below j).2 1 (by decide); have cv_ := cu_.1; have cw_ := cu_.2; rw [show ((fun i => moF 10 4 60 70 dsEx (i + 1)) 1) = (60, 70) from moEx.2] at cv_ cw_; exact gv (by simp [go_sem, a.e 44 (k 20 rfl), cv_, cw_]) rfl),
  fun f s W j k l m n a => osure rfl rfl (a.says (d := 42) rfl rfl (k 18 rfl)) (gc (by simp [go_sem]) (arm_span (60) (70) W)),
  fun f s W j k l m n a => osure rfl rfl (a.says (d := 42) rfl rfl (k 18 rfl)) (gv (by simp [go_sem, a.e 45 (k 21 rfl), a.e 46 (k 22 rfl)]) rfl),
  fun f s W j k l m n a => opk (c := true) rfl rfl (fun h => absurd h (by decide)) (fun _ => by simp [go_sem, a.e 42 (k 18 rfl), a.e 47 (k 23 rfl)]),
  fun f s W j k l m n a => opv rfl rfl (by simp [go_sem, a.e 48 (k 24 rfl)]) rfl,
  fun f s W j k l m n a => osure rfl rfl (a.says (d := 49) rfl rfl (k 25 rfl)) (gv (by simp [go_sem, a.e 3 k3_3]) rfl),
  fun f s W j k l m n a => osure rfl rfl (a.says (d := 49) rfl rfl (k 25 rfl)) (gv (by simp [go_sem, a.e 50 (k 26 rfl)]) rfl),
  fun f s W j k l m n a => opk (c := true) rfl rfl (fun h => absurd h (by decide)) (fun _ => by simp [go_sem, a.e 49 (k 25 rfl), a.e 51 (k 27 rfl)]),
  fun f s W j k l m n a => opv rfl rfl (by simp [go_sem, a.e 52 (k 28 rfl)]) rfl, trivial⟩ ?_
 intro f4 s4 W4 hB4 g4 hg4
 have fB4 := hB4.f fB3
 have z4 := hB4.below.size
 have b4_0 := hB4.b b3_0
 have q8' := (q7'.below hB4.below)
 refine hK4 _ _ ?_
 have k4_0 := kt hg4 0 (hB4.is 29)
 refine wp_ret ?_
 refine leave_one (N := 53) (v := .bool true) (.inr rfl) Try.results11 rfl k4_0 ?_
 exact ⟨rfl, fB4⟩
end Go.Proofs.Ytcgccflcjejlhaa
