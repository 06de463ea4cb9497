/- Part of the proof: what the claim leans on. -/
import Derived.Test.YtcgccflcjejlhaaDAX
set_option linter.unusedSimpArgs false
set_option linter.unusedVariables false
namespace Go.Proofs.Ytcgccflcjejlhaa
open Go.RowKit
set_option maxRecDepth 100000 in
set_option maxHeartbeats 40000000 in
theorem damp_main (jv chv sv : Nat → Int) (sx : Nat → Nat → Int) (mo : Nat → Nat → Int × Int) (w : World) (gj : ∀ k, 0 ≤ jv k ∧ jv k ≤ 255) (gg : ∀ k, 0 ≤ chv k ∧ chv k ≤ 255) (gs : ∀ k, 0 ≤ sv k ∧ sv k ≤ 255) (hsx : ∀ n k : Nat, elT ((runF (freeK n (stB sv)) (chK (chB chv)) 3 (jsB jv) (odB (chv 2)) 4).st k) 2 = sx n k) (hsl : ∀ k, k < 4 → 0 ≤ sx 0 k ∧ sx 0 k ≤ sx 1 k ∧ sx 1 k ≤ 29745) (hmo : ∀ n k : Nat, moF (1 + chv 3 % 5) 3 50 60 (dsW ((sx n k + jv (k * 5 + 4)) / 60)) 1 = mo n k) (hml : ∀ k, k < 4 → (mo 0 k).1 ≤ (mo 1 k).1 ∧ (mo 0 k).2 ≤ (mo 1 k).2 ∧ 50 ≤ (mo 0 k).1) :
  Calls Try.prog 3 #[.agg #[.int .u8 ((jv 0)), .int .u8 ((jv 1)), .int .u8 ((jv 2)), .int .u8 ((jv 3)), .int .u8 ((jv 4)), .int .u8 ((jv 5)), .int .u8 ((jv 6)), .int .u8 ((jv 7)), .int .u8 ((jv 8)), .int .u8 ((jv 9)), .int .u8 ((jv 10)), .int .u8 ((jv 11)), .int .u8 ((jv 12)), .int .u8 ((jv 13)), .int .u8 ((jv 14)), .int .u8 ((jv 15)), .int .u8 ((jv 16)), .int .u8 ((jv 17)), .int .u8 ((jv 18)), .int .u8 ((jv 19))], .agg #[.int .u8 ((chv 0)), .int .u8 ((chv 1)), .int .u8 ((chv 2)), .int .u8 ((chv 3))], .agg #[.int .u8 ((sv 0)), .int .u8 ((sv 1)), .int .u8 ((sv 2)), .int .u8 ((sv 3))]] w (fun e w' => e = .returned (.bool true) ∧ Below w.heap.size w w') := by
 have j0_ := gj 0
 have j1_ := gj 1
 have j2_ := gj 2
 have j3_ := gj 3
 have j4_ := gj 4
 have j5_ := gj 5
 have j6_ := gj 6
 have j7_ := gj 7
 have j8_ := gj 8
 have j9_ := gj 9
 have j10_ := gj 10
 have j11_ := gj 11
 have j12_ := gj 12
 have j13_ := gj 13
 have j14_ := gj 14
 have j15_ := gj 15
 have j16_ := gj 16
 have j17_ := gj 17
 have j18_ := gj 18
 have j19_ := gj 19
 have v0_ := gg 0
 have v1_ := gg 1
 have v2_ := gg 2
 have v3_ := gg 3
 have s0_ := gs 0
 have s1_ := gs 1
 have s2_ := gs 2
 refine calls_fr Try.func3 Try.ntmps3 rfl rfl fun g hg => ?_
 have k0 : g 0 = .agg #[.int .u8 ((jv 0)), .int .u8 ((jv 1)), .int .u8 ((jv 2)), .int .u8 ((jv 3)), .int .u8 ((jv 4)), .int .u8 ((jv 5)), .int .u8 ((jv 6)), .int .u8 ((jv 7)), .int .u8 ((jv 8)), .int .u8 ((jv 9)), .int .u8 ((jv 10)), .int .u8 ((jv 11)), .int .u8 ((jv 12)), .int .u8 ((jv 13)), .int .u8 ((jv 14)), .int .u8 ((jv 15)), .int .u8 ((jv 16)), .int .u8 ((jv 17)), .int .u8 ((jv 18)), .int .u8 ((jv 19))] := hg 0
 have k1 : g 1 = .agg #[.int .u8 ((chv 0)), .int .u8 ((chv 1)), .int .u8 ((chv 2)), .int .u8 ((chv 3))] := hg 1
 have k2 : g 2 = .agg #[.int .u8 ((sv 0)), .int .u8 ((sv 1)), .int .u8 ((sv 2)), .int .u8 ((sv 3))] := hg 2
 clear hg
 have fB0 : Below w.heap.size w w := Below.refl _ _
 refine wp_seq_k fun K1 hK1 => ?_
 refine region_dk 4 [(3, 0), (4, 1), (5, 2), (6, 3)] [[], [], [], []] (rel [bx 0 #[.int .u8 ((jv 0)), .int .u8 ((jv 1)), .int .u8 ((jv 2)), .int .u8 ((jv 3)), .int .u8 ((jv 4)), .int .u8 ((jv 5)), .int .u8 ((jv 6)), .int .u8 ((jv 7)), .int .u8 ((jv 8)), .int .u8 ((jv 9)), .int .u8 ((jv 10)), .int .u8 ((jv 11)), .int .u8 ((jv 12)), .int .u8 ((jv 13)), .int .u8 ((jv 14)), .int .u8 ((jv 15)), .int .u8 ((jv 16)), .int .u8 ((jv 17)), .int .u8 ((jv 18)), .int .u8 ((jv 19))] 23,
   bx 1 #[.int .u8 ((chv 0)), .int .u8 ((chv 1)), .int .u8 ((chv 2)), .int .u8 ((chv 3))] 24,
   bx 2 #[.int .u8 ((sv 0)), .int .u8 ((sv 1)), .int .u8 ((sv 2)), .int .u8 ((sv 3))] 24,
   is (.bool false)])
  ⟨bx_k, bx_k, bx_k, is_k, trivial⟩
  ⟨fun f s W d i j l m a => opb rfl rfl (by simp [go_sem, a.e 0 k0]),
  fun f s W d i j l m a => opb rfl rfl (by simp [go_sem, a.e 1 k1]),
  fun f s W d i j l m a => opb rfl rfl (by simp [go_sem, a.e 2 k2]),
  fun f s W d i j l m a => opv rfl rfl (by simp [go_sem]) rfl, trivial⟩ ?_
 intro f1 s1 W1 hB1 g1 hg1
 have fB1 := hB1.f fB0
 have z1 := hB1.below.size
 obtain ⟨r1_0, br1_0⟩ := hB1.is 0
 have lr1_0 := hB1.lr 0 br1_0
 obtain ⟨r1_1, br1_1⟩ := hB1.is 1
 have lr1_1 := hB1.lr 1 br1_1
 obtain ⟨r1_2, br1_2⟩ := hB1.is 2
 have lr1_2 := hB1.lr 2 br1_2
 have ne1_0_1 := hB1.nb 0 1
 have ne1_0_2 := hB1.nb 0 2
 have ne1_1_2 := hB1.nb 1 2
 refine hK1 _ _ ?_
 have k1_3 := kt hg1 3 r1_0
 have k1_4 := kt hg1 4 r1_1
 have k1_5 := kt hg1 5 r1_2
 have k1_6 := kt hg1 6 (hB1.is 3)
 refine wp_seq_k fun K2 hK2 => ?_
 refine region_dk 11 [(26, 0), (27, 1), (28, 2), (29, 3), (30, 4), (31, 5), (32, 6), (33, 7), (34, 8), (35, 9), (7, 10)] [[], [0], [0, 1], [0, 1, 2], [], [4], [4, 5], [4, 5, 6], [0, 1, 2, 3, 4, 5, 6, 7], [0, 1, 2, 3, 4, 5, 6, 7, 8], [], [0, 1, 2, 3, 4, 5, 6, 7, 8, 9, 10]] (rel [is (.pointer (some ⟨(s1 1), 0, none⟩)),
   is (.int .u8 ((chv 0))),
   is (.int .i64 ((chv 0))),
   row 3 2 #[.int .i64 0, .int .i64 ((chv 0))] 3,
   is (.pointer (some ⟨(s1 1), 1, none⟩)),
   is (.int .u8 ((chv 1))),
   is (.int .i64 ((chv 1))),
   row 7 2 #[.int .i64 ((chv 1)), .int .i64 0] 3,
   fun v s W => v = .slice (some ⟨(s 8), 0, none⟩) (2) (2) ∧ W.heap[(s 8)]? = some (.cells #[.slice (some ⟨(s 3), 0, none⟩) (2) (2), .slice (some ⟨(s 7), 0, none⟩) (2) (2)] 25 (0, 0)),
   isS fun s => .agg #[.int .i64 3, .slice (some ⟨(s 8), 0, none⟩) (2) (2), .slice (none) (0) (0)],
   bx 10 #[.int .i64 0, .slice (none) (0) (0), .slice (none) (0) (0)] 29])
  ⟨is_k, is_k, is_k, row_k, is_k, is_k, is_k, row_k, ⟨fun v k W W' hb h => ⟨h.1, blk_below h.2 hb⟩, fun v s s' W e h => by have h' : v = .slice (some ⟨(s 8), 0, none⟩) (2) (2) ∧ W.heap[(s 8)]? = some (.cells #[.slice (some ⟨(s 3), 0, none⟩) (2) (2), .slice (some ⟨(s 7), 0, none⟩) (2) (2)] 25 (0, 0)) := h; show v = .slice (some ⟨(s' 8), 0, none⟩) (2) (2) ∧ W.heap[(s' 8)]? = some (.cells #[.slice (some ⟨(s' 3), 0, none⟩) (2) (2), .slice (some ⟨(s' 7), 0, none⟩) (2) (2)] 25 (0, 0)); rw [← e 3 (by simp), ← e 7 (by simp), ← e 8 (by simp)]; exact h'⟩, isS_k fun s s' e => by rw [e 8 (by simp)], bx_k, trivial⟩
  ⟨fun f s W d i j l m a => opv rfl rfl (by simp [go_sem, a.e 4 k1_4]) rfl,
  fun f s W d i j l m a => opv rfl rfl (by simp [go_sem, a.e 26 (i 0 rfl), cb br1_1 d 0]) rfl,
  fun f s W d i j l m a => by have cv_ := IntWalk.i64_in (chv 0) (by omega); exact opv rfl rfl (by simp [go_sem, a.e 27 (i 1 rfl), cv_]) rfl,
  fun f s W d i j l m a => opr rfl rfl (by simp [go_sem, a.e 28 (i 2 rfl)]),
  fun f s W d i j l m a => opv rfl rfl (by simp [go_sem, a.e 4 k1_4]) rfl,
  fun f s W d i j l m a => opv rfl rfl (by simp [go_sem, a.e 30 (i 4 rfl), cb br1_1 d 1]) rfl,
  fun f s W d i j l m a => by have cv_ := IntWalk.i64_in (chv 1) (by omega); exact opv rfl rfl (by simp [go_sem, a.e 31 (i 5 rfl), cv_]) rfl,
  fun f s W d i j l m a => opr rfl rfl (by simp [go_sem, a.e 32 (i 6 rfl)]),
  fun f s W d i j l m a => opDo_value (v := .slice (some ⟨W.heap.size, 0, none⟩) (2) (2)) rfl rfl (by simp [go_sem, a.e 29 (i 3 rfl).1, a.e 33 (i 7 rfl).1, upd]) (balloc1 _ _) ⟨rfl, blk_new rfl⟩,
  fun f s W d i j l m a => opv rfl rfl (by simp [go_sem, a.e 34 (i 8 rfl).1, upd]) rfl,
  fun f s W d i j l m a => opb rfl rfl (by simp [go_sem]), trivial⟩ ?_
 intro f2 s2 W2 hB2 g2 hg2
 have fB2 := hB2.f fB1
 have z2 := hB2.below.size
 have b2_0 := hB2.b br1_0
 have b2_1 := hB2.b br1_1
 have b2_2 := hB2.b br1_2
 obtain ⟨r2_3, br2_3⟩ := hB2.is 3
 have lr2_3 := hB2.lr 3 br2_3
 obtain ⟨r2_7, br2_7⟩ := hB2.is 7
 have lr2_7 := hB2.lr 7 br2_7
 obtain ⟨r2_8, br2_8⟩ := hB2.is 8
 have lr2_8 := hB2.lr 8 br2_8
 obtain ⟨r2_10, br2_10⟩ := hB2.is 10
 have lr2_10 := hB2.lr 10 br2_10
 have ne2_3_7 := hB2.nb 3 7
 have ne2_3_8 := hB2.nb 3 8
 have ne2_7_8 := hB2.nb 7 8
 have ne2_3_10 := hB2.nb 3 10
 have ne2_7_10 := hB2.nb 7 10
 have ne2_8_10 := hB2.nb 8 10
 have k2_3 := kt hg2 3 k1_3
 have k2_4 := kt hg2 4 k1_4
 have k2_5 := kt hg2 5 k1_5
 have k2_6 := kt hg2 6 k1_6
 have k2_35 := kt hg2 35 (hB2.is 9)
 have k2_7 := kt hg2 7 r2_10
 obtain ⟨W3, hW3⟩ : ∃ W', W' = W2.setRow (s2 10) #[.int .i64 3, .slice (some ⟨(s2 8), 0, none⟩) (2) (2), .slice (none) (0) (0)] := ⟨_, rfl⟩
 refine tail_skip (o := _) rfl ⟨rfl, rfl⟩ (run_seg hW3 (fr_ev k2_7) (fr_ev k2_35) br2_10 rfl rfl rfl rfl) ?_
 obtain ⟨fB3, nb3, ot3, z3⟩ := seg_facts hW3 fB2 br2_10 (by omega)
 clear hW3
 have b3_0 := ot3 _ _ (by first | assumption | exact Ne.symm (by assumption) | omega) b2_0
 have b3_1 := ot3 _ _ (by first | assumption | exact Ne.symm (by assumption) | omega) b2_1
 have b3_2 := ot3 _ _ (by first | assumption | exact Ne.symm (by assumption) | omega) b2_2
 have b3_3 := ot3 _ _ (by first | assumption | exact Ne.symm (by assumption) | omega) br2_3
 have b3_4 := ot3 _ _ (by first | assumption | exact Ne.symm (by assumption) | omega) br2_7
 have b3_5 := ot3 _ _ (by first | assumption | exact Ne.symm (by assumption) | omega) br2_8
 refine wpOps_end ?_
 refine hK2 _ _ ?_
 refine wp_seq_k fun K3 hK3 => ?_
 refine region_dk 3 [(36, 0), (37, 1), (8, 2), (9, 4)] [[], [], [], [0, 2], [0, 1, 2, 3]] (rel [row 0 0 #[] 32,
   row 1 0 #[] 3,
   bx 2 #[.slice (none) (0) (0)] 30])
  ⟨row_k, row_k, bx_k, trivial⟩
  ⟨fun f s W d i j l m a => opr rfl rfl (by simp [go_sem]),
  fun f s W d i j l m a => opr rfl rfl (by simp [go_sem]),
  fun f s W d i j l m a => opb rfl rfl (by simp [go_sem]), trivial⟩ ?_
 intro f4 s4 W4 hB4 g4 hg4
 have fB4 := hB4.f fB3
 have z4 := hB4.below.size
 have b4_0 := hB4.b b3_0
 have b4_1 := hB4.b b3_1
 have b4_2 := hB4.b b3_2
 have b4_3 := hB4.b b3_3
 have b4_4 := hB4.b b3_4
 have b4_5 := hB4.b b3_5
 have b4_6 := hB4.b nb3
 obtain ⟨r4_0, br4_0⟩ := hB4.is 0
 have lr4_0 := hB4.lr 0 br4_0
 obtain ⟨r4_1, br4_1⟩ := hB4.is 1
 have lr4_1 := hB4.lr 1 br4_1
 obtain ⟨r4_2, br4_2⟩ := hB4.is 2
 have lr4_2 := hB4.lr 2 br4_2
 have ne4_0_1 := hB4.nb 0 1
 have ne4_0_2 := hB4.nb 0 2
 have ne4_1_2 := hB4.nb 1 2
 have k4_3 := kt hg4 3 k2_3
 have k4_4 := kt hg4 4 k2_4
 have k4_5 := kt hg4 5 k2_5
 have k4_6 := kt hg4 6 k2_6
 have k4_7 := kt hg4 7 k2_7
 have k4_36 := kt hg4 36 r4_0
 have k4_37 := kt hg4 37 r4_1
 have k4_8 := kt hg4 8 r4_2
 obtain ⟨W5, hW5⟩ : ∃ W', W' = W4.setRow (s4 2) #[.slice (some ⟨(s4 0), 0, none⟩) (0) (0)] := ⟨_, rfl⟩
 refine tail_skip (o := _) rfl ⟨rfl, rfl⟩ (run_seg hW5 (fr_ev k4_8) (fr_ev k4_36) br4_2 rfl rfl rfl rfl) ?_
 obtain ⟨fB5, nb5, ot5, z5⟩ := seg_facts hW5 fB4 br4_2 (by omega)
 clear hW5
 have b5_0 := ot5 _ _ (by first | assumption | exact Ne.symm (by assumption) | omega) b4_0
 have b5_1 := ot5 _ _ (by first | assumption | exact Ne.symm (by assumption) | omega) b4_1
 have b5_2 := ot5 _ _ (by first | assumption | exact Ne.symm (by assumption) | omega) b4_2
 have b5_3 := ot5 _ _ (by first | assumption | exact Ne.symm (by assumption) | omega) b4_3
 have b5_4 := ot5 _ _ (by first | assumption | exact Ne.symm (by assumption) | omega) b4_4
 have b5_5 := ot5 _ _ (by first | assumption | exact Ne.symm (by assumption) | omega) b4_5
 have b5_6 := ot5 _ _ (by first | assumption | exact Ne.symm (by assumption) | omega) b4_6
 have b5_7 := ot5 _ _ (by first | assumption | exact Ne.symm (by assumption) | omega) br4_0
 have b5_8 := ot5 _ _ (by first | assumption | exact Ne.symm (by assumption) | omega) br4_1
 refine tail_value (o := _) rfl rfl rfl (v := .slice (some ⟨(s4 1), 0, none⟩) (0) (0)) (by simp [go_sem, frv 256 k4_37]) ?_
 generalize hg6 : upd g4 9 (.slice (some ⟨(s4 1), 0, none⟩) (0) (0)) = g6
 have k6_3 := ku hg6 3 k4_3
 have k6_4 := ku hg6 4 k4_4
 have k6_5 := ku hg6 5 k4_5
 have k6_6 := ku hg6 6 k4_6
 have k6_7 := ku hg6 7 k4_7
 have k6_8 := ku hg6 8 k4_8
 have k6_9 := kt hg6 9 (upd_same _ _ _)
 refine wpOps_end ?_
 refine hK3 _ _ ?_
 have on0 : OwnN 32 4 w.heap.size 0 [] (some ⟨(s4 0), 0, none⟩) 0 W5 := .inr ⟨_, rfl, ownR_empty b5_7 (by omega)⟩
 refine wp_seq_k fun K4 hK4 => ?_
 refine wp_seq_k fun K5 hK5 => ?_
 refine region_dk 1 [(10, 0)] [[]] (rel [is (.int .i64 0)])
  ⟨is_k, trivial⟩
  ⟨fun f s W d i j l m a => opv rfl rfl (by simp [go_sem]) rfl, trivial⟩ ?_
 intro f7 s7 W7 hB7 g7 hg7
 have fB7 := hB7.f fB5
 have z7 := hB7.below.size
 have b7_0 := hB7.b b5_0
 have b7_1 := hB7.b b5_1
 have b7_2 := hB7.b b5_2
 have b7_3 := hB7.b b5_3
 have b7_4 := hB7.b b5_4
 have b7_5 := hB7.b b5_5
 have b7_6 := hB7.b b5_6
 have b7_7 := hB7.b b5_8
 have b7_8 := hB7.b nb5
 have q1' := (on0.below hB7.below)
 refine hK5 _ _ ?_
 have k7_3 := kt hg7 3 k6_3
 have k7_4 := kt hg7 4 k6_4
 have k7_5 := kt hg7 5 k6_5
 have k7_6 := kt hg7 6 k6_6
 have k7_7 := kt hg7 7 k6_7
 have k7_8 := kt hg7 8 k6_8
 have k7_9 := kt hg7 9 k6_9
 have k7_10 := kt hg7 10 (hB7.is 0)
 refine wp_block ?_
 refine wp_loop_rounds 5 ?_
 rw [rounds_succ]
 refine wp_seq_k fun K6 hK6 => ?_
 refine wp_seq_k fun K7 hK7 => ?_
 refine region_dk 2 [(38, 0), (39, 1)] [[], [0]] (rel [is (.int .i64 0),
   is (.bool true)])
  ⟨is_k, is_k, trivial⟩
  ⟨fun f s W d i j l m a => opv rfl rfl (by simp [go_sem, a.e 10 k7_10]) rfl,
  fun f s W d i j l m a => opv rfl rfl (by simp [go_sem, a.e 38 (i 0 rfl)]) rfl, trivial⟩ ?_
 intro f8 s8 W8 hB8 g8 hg8
 have fB8 := hB8.f fB7
 have z8 := hB8.below.size
 have b8_0 := hB8.b b7_0
 have b8_1 := hB8.b b7_1
 have b8_2 := hB8.b b7_2
 have b8_3 := hB8.b b7_3
 have b8_4 := hB8.b b7_4
 have b8_5 := hB8.b b7_5
 have b8_6 := hB8.b b7_6
 have b8_7 := hB8.b b7_7
 have b8_8 := hB8.b b7_8
 have q2' := (q1'.below hB8.below)
 refine hK7 _ _ ?_
 have k8_3 := kt hg8 3 k7_3
 have k8_4 := kt hg8 4 k7_4
 have k8_5 := kt hg8 5 k7_5
 have k8_6 := kt hg8 6 k7_6
 have k8_7 := kt hg8 7 k7_7
 have k8_8 := kt hg8 8 k7_8
 have k8_9 := kt hg8 9 k7_9
 have k8_10 := kt hg8 10 k7_10
 have k8_39 := kt hg8 39 (hB8.is 1)
 refine wp_cond_true ((fr_eval rfl).trans k8_39) ?_
 refine wp_skip ?_
 refine hK6 _ _ ?_
 refine wp_seq_k fun K9 hK9 => ?_
 refine wp_block ?_
 refine wp_seq_k fun K10 hK10 => ?_
 refine region_dk 4 [(42, 0), (43, 1), (44, 2), (11, 3)] [[], [0], [0, 1], [], [0, 1, 2, 3]] (rel [is (.int .i64 0),
   is (.pointer (some ⟨(s1 0), 0, none⟩)),
   is (.agg #[.int .u8 ((jv 0)), .int .u8 ((jv 1)), .int .u8 ((jv 2)), .int .u8 ((jv 3)), .int .u8 ((jv 4))]),
   bx 3 #[.int .u8 0, .int .u8 0, .int .u8 0, .int .u8 0, .int .u8 0] 22])
  ⟨is_k, is_k, is_k, bx_k, trivial⟩
  ⟨fun f s W d i j l m a => opv rfl rfl (by simp [go_sem, a.e 10 k8_10]) rfl,
  fun f s W d i j l m a => opv rfl rfl (by simp [go_sem, a.e 3 k8_3, a.e 42 (i 0 rfl)]) rfl,
  fun f s W d i j l m a => opv rfl rfl (by simp [go_sem, a.e 43 (i 1 rfl), cb b8_0 d 0, cb b8_0 d 1, cb b8_0 d 2, cb b8_0 d 3, cb b8_0 d 4]) rfl,
  fun f s W d i j l m a => opb rfl rfl (by simp [go_sem]), trivial⟩ ?_
 intro f9 s9 W9 hB9 g9 hg9
 have fB9 := hB9.f fB8
 have z9 := hB9.below.size
 have b9_0 := hB9.b b8_0
 have b9_1 := hB9.b b8_1
 have b9_2 := hB9.b b8_2
 have b9_3 := hB9.b b8_3
 have b9_4 := hB9.b b8_4
 have b9_5 := hB9.b b8_5
 have b9_6 := hB9.b b8_6
 have b9_7 := hB9.b b8_7
 have b9_8 := hB9.b b8_8
 have q3' := (q2'.below hB9.below)
 obtain ⟨r9_3, br9_3⟩ := hB9.is 3
 have lr9_3 := hB9.lr 3 br9_3
 have k9_3 := kt hg9 3 k8_3
 have k9_4 := kt hg9 4 k8_4
 have k9_5 := kt hg9 5 k8_5
 have k9_6 := kt hg9 6 k8_6
 have k9_7 := kt hg9 7 k8_7
 have k9_8 := kt hg9 8 k8_8
 have k9_9 := kt hg9 9 k8_9
 have k9_10 := kt hg9 10 k8_10
 have k9_39 := kt hg9 39 k8_39
 have k9_44 := kt hg9 44 (hB9.is 2)
 have k9_11 := kt hg9 11 r9_3
 obtain ⟨W10, hW10⟩ : ∃ W', W' = W9.setRow (s9 3) #[.int .u8 ((jv 0)), .int .u8 ((jv 1)), .int .u8 ((jv 2)), .int .u8 ((jv 3)), .int .u8 ((jv 4))] := ⟨_, rfl⟩
 refine tail_skip (o := _) rfl ⟨rfl, rfl⟩ (run_seg hW10 (fr_ev k9_11) (fr_ev k9_44) br9_3 rfl rfl rfl rfl) ?_
 obtain ⟨fB10, nb10, ot10, z10⟩ := seg_facts hW10 fB9 br9_3 (by omega)
 clear hW10
 have b10_0 := ot10 _ _ (by first | assumption | exact Ne.symm (by assumption) | omega) b9_0
 have b10_1 := ot10 _ _ (by first | assumption | exact Ne.symm (by assumption) | omega) b9_1
 have b10_2 := ot10 _ _ (by first | assumption | exact Ne.symm (by assumption) | omega) b9_2
 have b10_3 := ot10 _ _ (by first | assumption | exact Ne.symm (by assumption) | omega) b9_3
 have b10_4 := ot10 _ _ (by first | assumption | exact Ne.symm (by assumption) | omega) b9_4
 have b10_5 := ot10 _ _ (by first | assumption | exact Ne.symm (by assumption) | omega) b9_5
 have b10_6 := ot10 _ _ (by first | assumption | exact Ne.symm (by assumption) | omega) b9_6
 have b10_7 := ot10 _ _ (by first | assumption | exact Ne.symm (by assumption) | omega) b9_7
 have b10_8 := ot10 _ _ (by first | assumption | exact Ne.symm (by assumption) | omega) b9_8
 have q4' := q3'.other ot10 (ownN_ne q3' br9_3 (by decide)) z10
 refine wpOps_end ?_
 refine hK10 _ _ ?_
 refine wp_seq_k fun K11 hK11 => ?_
 refine region_dk 24 [(45, 0), (46, 1), (47, 2), (48, 3), (49, 4), (50, 5), (51, 6), (52, 7), (53, 8), (54, 9), (55, 10), (56, 11), (57, 12), (58, 13), (59, 14), (60, 15), (61, 16), (62, 17), (63, 18), (64, 19), (65, 20), (66, 21), (67, 22), (68, 23), (69, 24)] [[], [], [1], [1, 2], [1, 2, 3], [], [5], [5, 6], [], [8], [8, 9], [8, 9, 10], [], [12], [12, 13], [], [15], [15, 16], [], [18], [18, 19], [12, 13, 14, 15, 16, 17, 18, 19, 20], [1, 2, 3, 4, 5, 6, 7, 8, 9, 10, 11, 12, 13, 14, 15, 16, 17, 18, 19, 20, 21], [1, 2, 3, 4, 5, 6, 7, 8, 9, 10, 11, 12, 13, 14, 15, 16, 17, 18, 19, 20, 21, 22], [0, 1, 2, 3, 4, 5, 6, 7, 8, 9, 10, 11, 12, 13, 14, 15, 16, 17, 18, 19, 20, 21, 22, 23], [0, 1, 2, 3, 4, 5, 6, 7, 8, 9, 10, 11, 12, 13, 14, 15, 16, 17, 18, 19, 20, 21, 22, 23, 24]] (rel [is (.slice (some ⟨(s4 0), 0, none⟩) (0) (0)),
   is (.pointer (some ⟨(s9 3), 0, none⟩)),
   is (.int .u8 ((jv 0))),
   is (.int .i64 ((jv 0))),
   is (.int .i64 (((jv 0) % 2))),
   is (.pointer (some ⟨(s9 3), 1, none⟩)),
   is (.int .u8 ((jv 1))),
   is (.int .i64 ((jv 1))),
   is (.pointer (some ⟨(s9 3), 0, none⟩)),
   is (.int .u8 ((jv 0))),
   is (.int .i64 ((jv 0))),
   is (.int .i64 (2 * (jv 0))),
   is (.pointer (some ⟨(s9 3), 2, none⟩)),
   is (.int .u8 ((jv 2))),
   is (.int .i64 ((jv 2))),
   is (.pointer (some ⟨(s9 3), 3, none⟩)),
   is (.int .u8 ((jv 3))),
   is (.int .i64 ((jv 3))),
   is (.pointer (some ⟨(s9 3), 4, none⟩)),
   is (.int .u8 ((jv 4))),
   is (.int .i64 ((jv 4))),
   row 21 3 #[.int .i64 ((jv 2)), .int .i64 ((jv 3)), .int .i64 ((jv 4))] 3,
   isS fun s => .agg #[.int .i64 (((jv 0) % 2)), .int .i64 ((jv 1)), .int .i64 (2 * (jv 0)), .slice (some ⟨(s 21), 0, none⟩) (3) (3)],
   fun v s W => v = .slice (some ⟨(s 23), 0, none⟩) (1) (1) ∧ W.heap[(s 23)]? = some (.cells #[.int .i64 (((jv 0) % 2)), .int .i64 ((jv 1)), .int .i64 (2 * (jv 0)), .slice (some ⟨(s 21), 0, none⟩) (3) (3)] 32 (0, 0))])
  ⟨is_k, is_k, is_k, is_k, is_k, is_k, is_k, is_k, is_k, is_k, is_k, is_k, is_k, is_k, is_k, is_k, is_k, is_k, is_k, is_k, is_k, row_k, isS_k fun s s' e => by rw [e 21 (by simp)], ⟨fun v k W W' hb h => ⟨h.1, blk_below h.2 hb⟩, fun v s s' W e h => by have h' : v = .slice (some ⟨(s 23), 0, none⟩) (1) (1) ∧ W.heap[(s 23)]? = some (.cells #[.int .i64 (((jv 0) % 2)), .int .i64 ((jv 1)), .int .i64 (2 * (jv 0)), .slice (some ⟨(s 21), 0, none⟩) (3) (3)] 32 (0, 0)) := h; show v = .slice (some ⟨(s' 23), 0, none⟩) (1) (1) ∧ W.heap[(s' 23)]? = some (.cells #[.int .i64 (((jv 0) % 2)), .int .i64 ((jv 1)), .int .i64 (2 * (jv 0)), .slice (some ⟨(s' 21), 0, none⟩) (3) (3)] 32 (0, 0)); rw [← e 21 (by simp), ← e 23 (by simp)]; exact h'⟩, trivial⟩
  ⟨fun f s W d i j l m a => opv rfl rfl (by simp [go_sem, a.e 8 k9_8, cb b10_8 d 0]) rfl,
  fun f s W d i j l m a => opv rfl rfl (by simp [go_sem, a.e 11 k9_11]) rfl,
  fun f s W d i j l m a => opv rfl rfl (by simp [go_sem, a.e 46 (i 1 rfl), cb nb10 d 0]) rfl,
  fun f s W d i j l m a => by have cv_ := IntWalk.i64_in (jv 0) (by omega); exact opv rfl rfl (by simp [go_sem, a.e 47 (i 2 rfl), cv_]) rfl,
  fun f s W d i j l m a => by have qu_ : ((jv 0)).tmod 2 = ((jv 0) % 2) := Int.tmod_eq_emod_of_nonneg (by omega); have qw_ := IntWalk.i64_in ((jv 0) % 2) (by omega); exact opv rfl rfl (by simp [go_sem, a.e 48 (i 3 rfl), qu_, qw_]) rfl,
  fun f s W d i j l m a => opv rfl rfl (by simp [go_sem, a.e 11 k9_11]) rfl,
  fun f s W d i j l m a => opv rfl rfl (by simp [go_sem, a.e 50 (i 5 rfl), cb nb10 d 1]) rfl,
  fun f s W d i j l m a => by have cv_ := IntWalk.i64_in (jv 1) (by omega); exact opv rfl rfl (by simp [go_sem, a.e 51 (i 6 rfl), cv_]) rfl,
  fun f s W d i j l m a => opv rfl rfl (by simp [go_sem, a.e 11 k9_11]) rfl,
  fun f s W d i j l m a => opv rfl rfl (by simp [go_sem, a.e 53 (i 8 rfl), cb nb10 d 0]) rfl,
  fun f s W d i j l m a => by have cv_ := IntWalk.i64_in (jv 0) (by omega); exact opv rfl rfl (by simp [go_sem, a.e 54 (i 9 rfl), cv_]) rfl,
  fun f s W d i j l m a => opv rfl rfl (by simp [go_sem, a.e 55 (i 10 rfl), IntWalk.i64_in (2 * (jv 0)) (by omega)]) rfl,
  fun f s W d i j l m a => opv rfl rfl (by simp [go_sem, a.e 11 k9_11]) rfl,
  fun f s W d i j l m a => opv rfl rfl (by simp [go_sem, a.e 57 (i 12 rfl), cb nb10 d 2]) rfl,
  fun f s W d i j l m a => by have cv_ := IntWalk.i64_in (jv 2) (by omega); exact opv rfl rfl (by simp [go_sem, a.e 58 (i 13 rfl), cv_]) rfl,
  fun f s W d i j l m a => opv rfl rfl (by simp [go_sem, a.e 11 k9_11]) rfl,
  fun f s W d i j l m a => opv rfl rfl (by simp [go_sem, a.e 60 (i 15 rfl), cb nb10 d 3]) rfl,
  fun f s W d i j l m a => by have cv_ := IntWalk.i64_in (jv 3) (by omega); exact opv rfl rfl (by simp [go_sem, a.e 61 (i 16 rfl), cv_]) rfl,
  fun f s W d i j l m a => opv rfl rfl (by simp [go_sem, a.e 11 k9_11]) rfl,
  fun f s W d i j l m a => opv rfl rfl (by simp [go_sem, a.e 63 (i 18 rfl), cb nb10 d 4]) rfl,
  fun f s W d i j l m a => by have cv_ := IntWalk.i64_in (jv 4) (by omega); exact opv rfl rfl (by simp [go_sem, a.e 64 (i 19 rfl), cv_]) rfl,
  fun f s W d i j l m a => opr rfl rfl (by simp [go_sem, a.e 59 (i 14 rfl), a.e 62 (i 17 rfl), a.e 65 (i 20 rfl)]),
  fun f s W d i j l m a => opv rfl rfl (by simp [go_sem, a.e 49 (i 4 rfl), a.e 52 (i 7 rfl), a.e 56 (i 11 rfl), a.e 66 (i 21 rfl).1, upd]) rfl,
  fun f s W d i j l m a => opDo_value (v := .slice (some ⟨W.heap.size, 0, none⟩) (1) (1)) rfl rfl (by simp [go_sem, a.e 67 (i 22 rfl), upd]) (balloc1 _ _) ⟨rfl, blk_new rfl⟩, trivial⟩ ?_
 intro f11 s11 W11 hB11 g11 hg11
 have fB11 := hB11.f fB10
 have z11 := hB11.below.size
 have b11_0 := hB11.b b10_0
 have b11_1 := hB11.b b10_1
 have b11_2 := hB11.b b10_2
 have b11_3 := hB11.b b10_3
 have b11_4 := hB11.b b10_4
 have b11_5 := hB11.b b10_5
 have b11_6 := hB11.b b10_6
 have b11_7 := hB11.b b10_7
 have b11_8 := hB11.b b10_8
 have b11_9 := hB11.b nb10
 have q5' := (q4'.below hB11.below)
 obtain ⟨r11_21, br11_21⟩ := hB11.is 21
 have lr11_21 := hB11.lr 21 br11_21
 obtain ⟨r11_23, br11_23⟩ := hB11.is 23
 have lr11_23 := hB11.lr 23 br11_23
 have ne11_21_23 := hB11.nb 21 23
 have k11_3 := kt hg11 3 k9_3
 have k11_4 := kt hg11 4 k9_4
 have k11_5 := kt hg11 5 k9_5
 have k11_6 := kt hg11 6 k9_6
 have k11_7 := kt hg11 7 k9_7
 have k11_8 := kt hg11 8 k9_8
 have k11_9 := kt hg11 9 k9_9
 have k11_10 := kt hg11 10 k9_10
 have k11_39 := kt hg11 39 k9_39
 have k11_44 := kt hg11 44 k9_44
 have k11_11 := kt hg11 11 k9_11
 have k11_45 := kt hg11 45 (hB11.is 0)
 have k11_66 := kt hg11 66 r11_21
 have k11_68 := kt hg11 68 r11_23
 obtain ⟨ga12, ca12, W12, ra12, ow12, ot12, z12, gg12, fB12⟩ := growN_tail 30 30 32 4 48 _ (by kernel_rfl) fl_infoJ rfl [.int .i64 (((jv 0) % 2)), .int .i64 ((jv 1)), .int .i64 (2 * (jv 0)), .slice (some ⟨(s11 21), 0, none⟩) (3) (3)] 1 (off := 0) (k := 1) (c' := 1) [.int .i64 (((jv 0) % 2)), .int .i64 ((jv 1)), .int .i64 (2 * (jv 0)), .slice (some ⟨(s11 21), 0, none⟩) (3) (3)] fB11 q5' rfl rfl rfl rfl (cells_at br11_23) (by omega)
 refine tail_value2 (o := _) rfl rfl rfl (run_appendOp (fr_ev k11_45) (fr_ev k11_68) ra12) ?_
 have b12_0 := ot12 _ _ (ownN_ne q5' b11_0 (by decide)) b11_0
 have b12_1 := ot12 _ _ (ownN_ne q5' b11_1 (by decide)) b11_1
 have b12_2 := ot12 _ _ (ownN_ne q5' b11_2 (by decide)) b11_2
 have b12_3 := ot12 _ _ (ownN_ne q5' b11_3 (by decide)) b11_3
 have b12_4 := ot12 _ _ (ownN_ne q5' b11_4 (by decide)) b11_4
 have b12_5 := ot12 _ _ (ownN_ne q5' b11_5 (by decide)) b11_5
 have b12_6 := ot12 _ _ (ownN_ne q5' b11_6 (by decide)) b11_6
 have b12_7 := ot12 _ _ (ownN_ne q5' b11_7 (by decide)) b11_7
 have b12_8 := ot12 _ _ (ownN_ne q5' b11_8 (by decide)) b11_8
 have b12_9 := ot12 _ _ (ownN_ne q5' b11_9 (by decide)) b11_9
 have b12_10 := ot12 _ _ (ownN_ne q5' br11_21 (by decide)) br11_21
 have on12 : OwnN 32 4 w.heap.size 1 [.int .i64 (((jv 0) % 2)), .int .i64 ((jv 1)), .int .i64 (2 * (jv 0)), .slice (some ⟨(s11 21), 0, none⟩) (3) (3)] (some ⟨ga12, 0, none⟩) ca12 W12 := .inr ⟨_, rfl, ow12⟩
 generalize hg12 : upd g11 69 (.slice (some ⟨ga12, 0, none⟩) (1) (ca12)) = g12
 have k12_3 := ku hg12 3 k11_3
 have k12_4 := ku hg12 4 k11_4
 have k12_5 := ku hg12 5 k11_5
 have k12_6 := ku hg12 6 k11_6
 have k12_7 := ku hg12 7 k11_7
 have k12_8 := ku hg12 8 k11_8
 have k12_9 := ku hg12 9 k11_9
 have k12_10 := ku hg12 10 k11_10
 have k12_39 := ku hg12 39 k11_39
 have k12_44 := ku hg12 44 k11_44
 have k12_11 := ku hg12 11 k11_11
 have k12_45 := ku hg12 45 k11_45
 have k12_66 := ku hg12 66 k11_66
 have k12_68 := ku hg12 68 k11_68
 have k12_69 := kt hg12 69 (upd_same _ _ _)
 obtain ⟨W13, hW13⟩ : ∃ W', W' = W12.setRow (s4 2) #[.slice (some ⟨ga12, 0, none⟩) (1) (ca12)] := ⟨_, rfl⟩
 refine tail_skip (o := _) rfl ⟨rfl, rfl⟩ (run_seg hW13 (fr_ev k12_8) (fr_ev k12_69) b12_8 rfl rfl rfl rfl) ?_
 obtain ⟨fB13, nb13, ot13, z13⟩ := seg_facts hW13 fB12 b12_8 (by omega)
 clear hW13
 have b13_0 := ot13 _ _ (by first | assumption | exact Ne.symm (by assumption) | omega) b12_0
 have b13_1 := ot13 _ _ (by first | assumption | exact Ne.symm (by assumption) | omega) b12_1
 have b13_2 := ot13 _ _ (by first | assumption | exact Ne.symm (by assumption) | omega) b12_2
 have b13_3 := ot13 _ _ (by first | assumption | exact Ne.symm (by assumption) | omega) b12_3
 have b13_4 := ot13 _ _ (by first | assumption | exact Ne.symm (by assumption) | omega) b12_4
 have b13_5 := ot13 _ _ (by first | assumption | exact Ne.symm (by assumption) | omega) b12_5
 have b13_6 := ot13 _ _ (by first | assumption | exact Ne.symm (by assumption) | omega) b12_6
 have b13_7 := ot13 _ _ (by first | assumption | exact Ne.symm (by assumption) | omega) b12_7
 have b13_9 := ot13 _ _ (by first | assumption | exact Ne.symm (by assumption) | omega) b12_9
 have b13_10 := ot13 _ _ (by first | assumption | exact Ne.symm (by assumption) | omega) b12_10
 have q6' := on12.other ot13 (ownN_ne on12 b12_8 (by decide)) z13
 refine wpOps_end ?_
 refine hK11 _ _ ?_
 refine region_dk 8 [(70, 0), (71, 1), (72, 2), (73, 3), (74, 4), (75, 5), (76, 6), (77, 7), (78, 8), (9, 9)] [[], [], [], [2], [2, 3], [1, 2, 3, 4], [1, 2, 3, 4, 5], [1, 2, 3, 4, 5, 6], [0, 1, 2, 3, 4, 5, 6, 7], [0, 1, 2, 3, 4, 5, 6, 7, 8]] (rel [is (.slice (some ⟨(s4 1), 0, none⟩) (0) (0)),
   is (.int .i64 0),
   is (.pointer (some ⟨(s1 1), 2, none⟩)),
   is (.int .u8 ((chv 2))),
   is (.int .i64 ((chv 2))),
   is (.int .i64 ((chv 2))),
   is (.int .i64 (((chv 2) % 4))),
   row 7 1 #[.int .i64 (((chv 2) % 4))] 3])
  ⟨is_k, is_k, is_k, is_k, is_k, is_k, is_k, row_k, trivial⟩
  ⟨fun f s W d i j l m a => opv rfl rfl (by simp [go_sem, a.e 9 ((l 9 9 rfl rfl).trans k12_9)]) rfl,
  fun f s W d i j l m a => opv rfl rfl (by simp [go_sem, a.e 10 k12_10]) rfl,
  fun f s W d i j l m a => opv rfl rfl (by simp [go_sem, a.e 4 k12_4]) rfl,
  fun f s W d i j l m a => opv rfl rfl (by simp [go_sem, a.e 72 (i 2 rfl), cb b13_1 d 2]) rfl,
  fun f s W d i j l m a => by have cv_ := IntWalk.i64_in (chv 2) (by omega); exact opv rfl rfl (by simp [go_sem, a.e 73 (i 3 rfl), cv_]) rfl,
  fun f s W d i j l m a => opv rfl rfl (by simp [go_sem, a.e 71 (i 1 rfl), a.e 74 (i 4 rfl), IntWalk.i64_in ((chv 2)) (by omega)]) rfl,
  fun f s W d i j l m a => by have qu_ : ((chv 2)).tmod 4 = ((chv 2) % 4) := Int.tmod_eq_emod_of_nonneg (by omega); have qw_ := IntWalk.i64_in ((chv 2) % 4) (by omega); exact opv rfl rfl (by simp [go_sem, a.e 75 (i 5 rfl), qu_, qw_]) rfl,
  fun f s W d i j l m a => opr rfl rfl (by simp [go_sem, a.e 76 (i 6 rfl)]), trivial⟩ ?_
 intro f14 s14 W14 hB14 g14 hg14
 have fB14 := hB14.f fB13
 have z14 := hB14.below.size
 have b14_0 := hB14.b b13_0
 have b14_1 := hB14.b b13_1
 have b14_2 := hB14.b b13_2
 have b14_3 := hB14.b b13_3
 have b14_4 := hB14.b b13_4
 have b14_5 := hB14.b b13_5
 have b14_6 := hB14.b b13_6
 have b14_7 := hB14.b b13_7
 have b14_8 := hB14.b nb13
 have b14_9 := hB14.b b13_9
 have b14_10 := hB14.b b13_10
 have q7' := (q6'.below hB14.below)
 obtain ⟨r14_7, br14_7⟩ := hB14.is 7
 have lr14_7 := hB14.lr 7 br14_7
 have k14_3 := kt hg14 3 k12_3
 have k14_4 := kt hg14 4 k12_4
 have k14_5 := kt hg14 5 k12_5
 have k14_6 := kt hg14 6 k12_6
 have k14_7 := kt hg14 7 k12_7
 have k14_8 := kt hg14 8 k12_8
 have k14_10 := kt hg14 10 k12_10
 have k14_39 := kt hg14 39 k12_39
 have k14_44 := kt hg14 44 k12_44
 have k14_11 := kt hg14 11 k12_11
 have k14_45 := kt hg14 45 k12_45
 have k14_66 := kt hg14 66 k12_66
 have k14_68 := kt hg14 68 k12_68
 have k14_69 := kt hg14 69 k12_69
 have k14_70 := kt hg14 70 (hB14.is 0)
 have k14_77 := kt hg14 77 r14_7
 have oi15 : OwnI w.heap.size [] (s4 1) 0 W14 := ownI_block b14_7 (by omega)
 obtain ⟨ga15, ca15, W15, ra15, ow15, ot15, z15, gg15, fB15⟩ := growI_tail 25 (xs := []) (c := 0) [((chv 2) % 4)] 0 1 rfl rfl rfl fB14 oi15 br14_7 rfl
 have lo15 := OwnI.lim ow15
 refine tail_value2 (o := _) rfl rfl rfl (run_appendOp (fr_ev k14_70) (fr_ev k14_77) ra15) ?_
 have b15_0 := ot15 _ _ (by first | assumption | exact Ne.symm (by assumption) | omega) b14_0
 have b15_1 := ot15 _ _ (by first | assumption | exact Ne.symm (by assumption) | omega) b14_1
 have b15_2 := ot15 _ _ (by first | assumption | exact Ne.symm (by assumption) | omega) b14_2
 have b15_3 := ot15 _ _ (by first | assumption | exact Ne.symm (by assumption) | omega) b14_3
 have b15_4 := ot15 _ _ (by first | assumption | exact Ne.symm (by assumption) | omega) b14_4
 have b15_5 := ot15 _ _ (by first | assumption | exact Ne.symm (by assumption) | omega) b14_5
 have b15_6 := ot15 _ _ (by first | assumption | exact Ne.symm (by assumption) | omega) b14_6
 have b15_7 := ot15 _ _ (by first | assumption | exact Ne.symm (by assumption) | omega) b14_8
 have b15_8 := ot15 _ _ (by first | assumption | exact Ne.symm (by assumption) | omega) b14_9
 have b15_9 := ot15 _ _ (by first | assumption | exact Ne.symm (by assumption) | omega) b14_10
 have q8' := OwnN.otherI q7' oi15 ot15 z15
 generalize hg15 : upd g14 78 (.slice (some ⟨ga15, 0, none⟩) (1) (ca15)) = g15
 have k15_3 := ku hg15 3 k14_3
 have k15_4 := ku hg15 4 k14_4
 have k15_5 := ku hg15 5 k14_5
 have k15_6 := ku hg15 6 k14_6
 have k15_7 := ku hg15 7 k14_7
 have k15_8 := ku hg15 8 k14_8
 have k15_10 := ku hg15 10 k14_10
 have k15_39 := ku hg15 39 k14_39
 have k15_44 := ku hg15 44 k14_44
 have k15_11 := ku hg15 11 k14_11
 have k15_45 := ku hg15 45 k14_45
 have k15_66 := ku hg15 66 k14_66
 have k15_68 := ku hg15 68 k14_68
 have k15_69 := ku hg15 69 k14_69
 have k15_70 := ku hg15 70 k14_70
 have k15_77 := ku hg15 77 k14_77
 have k15_78 := kt hg15 78 (upd_same _ _ _)
 refine tail_value (o := _) rfl rfl rfl (v := .slice (some ⟨ga15, 0, none⟩) (1) (ca15)) (by simp [go_sem, frv 256 k15_78]) ?_
 generalize hg16 : upd g15 9 (.slice (some ⟨ga15, 0, none⟩) (1) (ca15)) = g16
 have k16_3 := ku hg16 3 k15_3
 have k16_4 := ku hg16 4 k15_4
 have k16_5 := ku hg16 5 k15_5
 have k16_6 := ku hg16 6 k15_6
 have k16_7 := ku hg16 7 k15_7
 have k16_8 := ku hg16 8 k15_8
 have k16_10 := ku hg16 10 k15_10
 have k16_39 := ku hg16 39 k15_39
 have k16_44 := ku hg16 44 k15_44
 have k16_11 := ku hg16 11 k15_11
 have k16_45 := ku hg16 45 k15_45
 have k16_66 := ku hg16 66 k15_66
 have k16_68 := ku hg16 68 k15_68
 have k16_69 := ku hg16 69 k15_69
 have k16_70 := ku hg16 70 k15_70
 have k16_77 := ku hg16 77 k15_77
 have k16_78 := ku hg16 78 k15_78
 have k16_9 := kt hg16 9 (upd_same _ _ _)
 refine wpOps_end ?_
 refine inBlock_normal ?_
 refine hK9 _ _ ?_
 refine region_dk 3 [(40, 0), (41, 1), (10, 2)] [[], [0], [0, 1]] (rel [is (.int .i64 0),
   is (.int .i64 1),
   is (.int .i64 1)])
  ⟨is_k, is_k, is_k, trivial⟩
  ⟨fun f s W d i j l m a => opv rfl rfl (by simp [go_sem, a.e 10 ((l 2 10 rfl rfl).trans k16_10)]) rfl,
  fun f s W d i j l m a => opv rfl rfl (by simp [go_sem, a.e 40 (i 0 rfl), IntWalk.i64_in (1) (by omega)]) rfl,
  fun f s W d i j l m a => opv rfl rfl (by simp [go_sem, a.e 41 (i 1 rfl)]) rfl, trivial⟩ ?_
 intro f17 s17 W17 hB17 g17 hg17
 have fB17 := hB17.f fB15
 have z17 := hB17.below.size
 have b17_0 := hB17.b b15_0
 have b17_1 := hB17.b b15_1
 have b17_2 := hB17.b b15_2
 have b17_3 := hB17.b b15_3
 have b17_4 := hB17.b b15_4
 have b17_5 := hB17.b b15_5
 have b17_6 := hB17.b b15_6
 have b17_7 := hB17.b b15_7
 have b17_8 := hB17.b b15_8
 have b17_9 := hB17.b b15_9
 have q9' := (q8'.below hB17.below)
 have q10' := (ow15.below hB17.below)
 refine wpOps_end ?_
 have k17_3 := kt hg17 3 k16_3
 have k17_4 := kt hg17 4 k16_4
 have k17_5 := kt hg17 5 k16_5
 have k17_6 := kt hg17 6 k16_6
 have k17_7 := kt hg17 7 k16_7
 have k17_8 := kt hg17 8 k16_8
 have k17_39 := kt hg17 39 k16_39
 have k17_44 := kt hg17 44 k16_44
 have k17_11 := kt hg17 11 k16_11
 have k17_45 := kt hg17 45 k16_45
 have k17_66 := kt hg17 66 k16_66
 have k17_68 := kt hg17 68 k16_68
 have k17_69 := kt hg17 69 k16_69
 have k17_70 := kt hg17 70 k16_70
 have k17_77 := kt hg17 77 k16_77
 have k17_78 := kt hg17 78 k16_78
 have k17_9 := kt hg17 9 k16_9
 have k17_10 := kt hg17 10 (hB17.is 2)
 refine then_normal ?_
 rw [rounds_succ]
 refine wp_seq_k fun K12 hK12 => ?_
 refine wp_seq_k fun K13 hK13 => ?_
 refine region_dk 2 [(38, 0), (39, 1)] [[], [0]] (rel [is (.int .i64 1),
   is (.bool true)])
  ⟨is_k, is_k, trivial⟩
  ⟨fun f s W d i j l m a => opv rfl rfl (by simp [go_sem, a.e 10 k17_10]) rfl,
  fun f s W d i j l m a => opv rfl rfl (by simp [go_sem, a.e 38 (i 0 rfl)]) rfl, trivial⟩ ?_
 intro f18 s18 W18 hB18 g18 hg18
 have fB18 := hB18.f fB17
 have z18 := hB18.below.size
 have b18_0 := hB18.b b17_0
 have b18_1 := hB18.b b17_1
 have b18_2 := hB18.b b17_2
 have b18_3 := hB18.b b17_3
 have b18_4 := hB18.b b17_4
 have b18_5 := hB18.b b17_5
 have b18_6 := hB18.b b17_6
 have b18_7 := hB18.b b17_7
 have b18_8 := hB18.b b17_8
 have b18_9 := hB18.b b17_9
 have q11' := (q9'.below hB18.below)
 have q12' := (q10'.below hB18.below)
 refine hK13 _ _ ?_
 have k18_3 := kt hg18 3 k17_3
 have k18_4 := kt hg18 4 k17_4
 have k18_5 := kt hg18 5 k17_5
 have k18_6 := kt hg18 6 k17_6
 have k18_7 := kt hg18 7 k17_7
 have k18_8 := kt hg18 8 k17_8
 have k18_44 := kt hg18 44 k17_44
 have k18_11 := kt hg18 11 k17_11
 have k18_45 := kt hg18 45 k17_45
 have k18_66 := kt hg18 66 k17_66
 have k18_68 := kt hg18 68 k17_68
 have k18_69 := kt hg18 69 k17_69
 have k18_70 := kt hg18 70 k17_70
 have k18_77 := kt hg18 77 k17_77
 have k18_78 := kt hg18 78 k17_78
 have k18_9 := kt hg18 9 k17_9
 have k18_10 := kt hg18 10 k17_10
 have k18_39 := kt hg18 39 (hB18.is 1)
 refine wp_cond_true ((fr_eval rfl).trans k18_39) ?_
 refine wp_skip ?_
 refine hK12 _ _ ?_
 refine wp_seq_k fun K15 hK15 => ?_
 refine wp_block ?_
 refine wp_seq_k fun K16 hK16 => ?_
 refine region_dk 4 [(42, 0), (43, 1), (44, 2), (11, 3)] [[], [0], [0, 1], [], [0, 1, 2, 3]] (rel [is (.int .i64 1),
   is (.pointer (some ⟨(s1 0), 5, none⟩)),
   is (.agg #[.int .u8 ((jv 5)), .int .u8 ((jv 6)), .int .u8 ((jv 7)), .int .u8 ((jv 8)), .int .u8 ((jv 9))]),
   bx 3 #[.int .u8 0, .int .u8 0, .int .u8 0, .int .u8 0, .int .u8 0] 22])
  ⟨is_k, is_k, is_k, bx_k, trivial⟩
  ⟨fun f s W d i j l m a => opv rfl rfl (by simp [go_sem, a.e 10 k18_10]) rfl,
  fun f s W d i j l m a => opv rfl rfl (by simp [go_sem, a.e 3 k18_3, a.e 42 (i 0 rfl)]) rfl,
  fun f s W d i j l m a => opv rfl rfl (by simp [go_sem, a.e 43 (i 1 rfl), cb b18_0 d 5, cb b18_0 d 6, cb b18_0 d 7, cb b18_0 d 8, cb b18_0 d 9]) rfl,
  fun f s W d i j l m a => opb rfl rfl (by simp [go_sem]), trivial⟩ ?_
 intro f19 s19 W19 hB19 g19 hg19
 have fB19 := hB19.f fB18
 have z19 := hB19.below.size
 have b19_0 := hB19.b b18_0
 have b19_1 := hB19.b b18_1
 have b19_2 := hB19.b b18_2
 have b19_3 := hB19.b b18_3
 have b19_4 := hB19.b b18_4
 have b19_5 := hB19.b b18_5
 have b19_6 := hB19.b b18_6
 have b19_7 := hB19.b b18_7
 have b19_8 := hB19.b b18_8
 have b19_9 := hB19.b b18_9
 have q13' := (q11'.below hB19.below)
 have q14' := (q12'.below hB19.below)
 obtain ⟨r19_3, br19_3⟩ := hB19.is 3
 have lr19_3 := hB19.lr 3 br19_3
 have k19_3 := kt hg19 3 k18_3
 have k19_4 := kt hg19 4 k18_4
 have k19_5 := kt hg19 5 k18_5
 have k19_6 := kt hg19 6 k18_6
 have k19_7 := kt hg19 7 k18_7
 have k19_8 := kt hg19 8 k18_8
 have k19_45 := kt hg19 45 k18_45
 have k19_66 := kt hg19 66 k18_66
 have k19_68 := kt hg19 68 k18_68
 have k19_69 := kt hg19 69 k18_69
 have k19_70 := kt hg19 70 k18_70
 have k19_77 := kt hg19 77 k18_77
 have k19_78 := kt hg19 78 k18_78
 have k19_9 := kt hg19 9 k18_9
 have k19_10 := kt hg19 10 k18_10
 have k19_39 := kt hg19 39 k18_39
 have k19_44 := kt hg19 44 (hB19.is 2)
 have k19_11 := kt hg19 11 r19_3
 obtain ⟨W20, hW20⟩ : ∃ W', W' = W19.setRow (s19 3) #[.int .u8 ((jv 5)), .int .u8 ((jv 6)), .int .u8 ((jv 7)), .int .u8 ((jv 8)), .int .u8 ((jv 9))] := ⟨_, rfl⟩
 refine tail_skip (o := _) rfl ⟨rfl, rfl⟩ (run_seg hW20 (fr_ev k19_11) (fr_ev k19_44) br19_3 rfl rfl rfl rfl) ?_
 obtain ⟨fB20, nb20, ot20, z20⟩ := seg_facts hW20 fB19 br19_3 (by omega)
 clear hW20
 have b20_0 := ot20 _ _ (by first | assumption | exact Ne.symm (by assumption) | omega) b19_0
 have b20_1 := ot20 _ _ (by first | assumption | exact Ne.symm (by assumption) | omega) b19_1
 have b20_2 := ot20 _ _ (by first | assumption | exact Ne.symm (by assumption) | omega) b19_2
 have b20_3 := ot20 _ _ (by first | assumption | exact Ne.symm (by assumption) | omega) b19_3
 have b20_4 := ot20 _ _ (by first | assumption | exact Ne.symm (by assumption) | omega) b19_4
 have b20_5 := ot20 _ _ (by first | assumption | exact Ne.symm (by assumption) | omega) b19_5
 have b20_6 := ot20 _ _ (by first | assumption | exact Ne.symm (by assumption) | omega) b19_6
 have b20_7 := ot20 _ _ (by first | assumption | exact Ne.symm (by assumption) | omega) b19_7
 have b20_8 := ot20 _ _ (by first | assumption | exact Ne.symm (by assumption) | omega) b19_8
 have b20_9 := ot20 _ _ (by first | assumption | exact Ne.symm (by assumption) | omega) b19_9
 have q15' := q13'.other ot20 (ownN_ne q13' br19_3 (by decide)) z20
 have q16' := q14'.other ot20 (by first | assumption | exact Ne.symm (by assumption) | omega) z20
 refine wpOps_end ?_
 refine hK16 _ _ ?_
 refine wp_seq_k fun K17 hK17 => ?_
 refine region_dk 24 [(45, 0), (46, 1), (47, 2), (48, 3), (49, 4), (50, 5), (51, 6), (52, 7), (53, 8), (54, 9), (55, 10), (56, 11), (57, 12), (58, 13), (59, 14), (60, 15), (61, 16), (62, 17), (63, 18), (64, 19), (65, 20), (66, 21), (67, 22), (68, 23), (69, 24)] [[], [], [1], [1, 2], [1, 2, 3], [], [5], [5, 6], [], [8], [8, 9], [8, 9, 10], [], [12], [12, 13], [], [15], [15, 16], [], [18], [18, 19], [12, 13, 14, 15, 16, 17, 18, 19, 20], [1, 2, 3, 4, 5, 6, 7, 8, 9, 10, 11, 12, 13, 14, 15, 16, 17, 18, 19, 20, 21], [1, 2, 3, 4, 5, 6, 7, 8, 9, 10, 11, 12, 13, 14, 15, 16, 17, 18, 19, 20, 21, 22], [0, 1, 2, 3, 4, 5, 6, 7, 8, 9, 10, 11, 12, 13, 14, 15, 16, 17, 18, 19, 20, 21, 22, 23], [0, 1, 2, 3, 4, 5, 6, 7, 8, 9, 10, 11, 12, 13, 14, 15, 16, 17, 18, 19, 20, 21, 22, 23, 24]] (rel [is (.slice (some ⟨ga12, 0, none⟩) (1) (ca12)),
   is (.pointer (some ⟨(s19 3), 0, none⟩)),
   is (.int .u8 ((jv 5))),
   is (.int .i64 ((jv 5))),
   is (.int .i64 (((jv 5) % 2))),
   is (.pointer (some ⟨(s19 3), 1, none⟩)),
   is (.int .u8 ((jv 6))),
   is (.int .i64 ((jv 6))),
   is (.pointer (some ⟨(s19 3), 0, none⟩)),
   is (.int .u8 ((jv 5))),
   is (.int .i64 ((jv 5))),
   is (.int .i64 (2 * (jv 5))),
   is (.pointer (some ⟨(s19 3), 2, none⟩)),
   is (.int .u8 ((jv 7))),
   is (.int .i64 ((jv 7))),
   is (.pointer (some ⟨(s19 3), 3, none⟩)),
   is (.int .u8 ((jv 8))),
   is (.int .i64 ((jv 8))),
   is (.pointer (some ⟨(s19 3), 4, none⟩)),
   is (.int .u8 ((jv 9))),
   is (.int .i64 ((jv 9))),
   row 21 3 #[.int .i64 ((jv 7)), .int .i64 ((jv 8)), .int .i64 ((jv 9))] 3,
   isS fun s => .agg #[.int .i64 (((jv 5) % 2)), .int .i64 ((jv 6)), .int .i64 (2 * (jv 5)), .slice (some ⟨(s 21), 0, none⟩) (3) (3)],
   fun v s W => v = .slice (some ⟨(s 23), 0, none⟩) (1) (1) ∧ W.heap[(s 23)]? = some (.cells #[.int .i64 (((jv 5) % 2)), .int .i64 ((jv 6)), .int .i64 (2 * (jv 5)), .slice (some ⟨(s 21), 0, none⟩) (3) (3)] 32 (0, 0))])
  ⟨is_k, is_k, is_k, is_k, is_k, is_k, is_k, is_k, is_k, is_k, is_k, is_k, is_k, is_k, is_k, is_k, is_k, is_k, is_k, is_k, is_k, row_k, isS_k fun s s' e => by rw [e 21 (by simp)], ⟨fun v k W W' hb h => ⟨h.1, blk_below h.2 hb⟩, fun v s s' W e h => by have h' : v = .slice (some ⟨(s 23), 0, none⟩) (1) (1) ∧ W.heap[(s 23)]? = some (.cells #[.int .i64 (((jv 5) % 2)), .int .i64 ((jv 6)), .int .i64 (2 * (jv 5)), .slice (some ⟨(s 21), 0, none⟩) (3) (3)] 32 (0, 0)) := h; show v = .slice (some ⟨(s' 23), 0, none⟩) (1) (1) ∧ W.heap[(s' 23)]? = some (.cells #[.int .i64 (((jv 5) % 2)), .int .i64 ((jv 6)), .int .i64 (2 * (jv 5)), .slice (some ⟨(s' 21), 0, none⟩) (3) (3)] 32 (0, 0)); rw [← e 21 (by simp), ← e 23 (by simp)]; exact h'⟩, trivial⟩
  ⟨fun f s W d i j l m a => opv rfl rfl (by simp [go_sem, a.e 8 k19_8, cb b20_7 d 0]) rfl,
  fun f s W d i j l m a => opv rfl rfl (by simp [go_sem, a.e 11 k19_11]) rfl,
  fun f s W d i j l m a => opv rfl rfl (by simp [go_sem, a.e 46 (i 1 rfl), cb nb20 d 0]) rfl,
  fun f s W d i j l m a => by have cv_ := IntWalk.i64_in (jv 5) (by omega); exact opv rfl rfl (by simp [go_sem, a.e 47 (i 2 rfl), cv_]) rfl,
  fun f s W d i j l m a => by have qu_ : ((jv 5)).tmod 2 = ((jv 5) % 2) := Int.tmod_eq_emod_of_nonneg (by omega); have qw_ := IntWalk.i64_in ((jv 5) % 2) (by omega); exact opv rfl rfl (by simp [go_sem, a.e 48 (i 3 rfl), qu_, qw_]) rfl,
  fun f s W d i j l m a => opv rfl rfl (by simp [go_sem, a.e 11 k19_11]) rfl,
  fun f s W d i j l m a => opv rfl rfl (by simp [go_sem, a.e 50 (i 5 rfl), cb nb20 d 1]) rfl,
  fun f s W d i j l m a => by have cv_ := IntWalk.i64_in (jv 6) (by omega); exact opv rfl rfl (by simp [go_sem, a.e 51 (i 6 rfl), cv_]) rfl,
  fun f s W d i j l m a => opv rfl rfl (by simp [go_sem, a.e 11 k19_11]) rfl,
  fun f s W d i j l m a => opv rfl rfl (by simp [go_sem, a.e 53 (i 8 rfl), cb nb20 d 0]) rfl,
  fun f s W d i j l m a => by have cv_ := IntWalk.i64_in (jv 5) (by omega); exact opv rfl rfl (by simp [go_sem, a.e 54 (i 9 rfl), cv_]) rfl,
  fun f s W d i j l m a => opv rfl rfl (by simp [go_sem, a.e 55 (i 10 rfl), IntWalk.i64_in (2 * (jv 5)) (by omega)]) rfl,
  fun f s W d i j l m a => opv rfl rfl (by simp [go_sem, a.e 11 k19_11]) rfl,
  fun f s W d i j l m a => opv rfl rfl (by simp [go_sem, a.e 57 (i 12 rfl), cb nb20 d 2]) rfl,
  fun f s W d i j l m a => by have cv_ := IntWalk.i64_in (jv 7) (by omega); exact opv rfl rfl (by simp [go_sem, a.e 58 (i 13 rfl), cv_]) rfl,
  fun f s W d i j l m a => opv rfl rfl (by simp [go_sem, a.e 11 k19_11]) rfl,
  fun f s W d i j l m a => opv rfl rfl (by simp [go_sem, a.e 60 (i 15 rfl), cb nb20 d 3]) rfl,
  fun f s W d i j l m a => by have cv_ := IntWalk.i64_in (jv 8) (by omega); exact opv rfl rfl (by simp [go_sem, a.e 61 (i 16 rfl), cv_]) rfl,
  fun f s W d i j l m a => opv rfl rfl (by simp [go_sem, a.e 11 k19_11]) rfl,
  fun f s W d i j l m a => opv rfl rfl (by simp [go_sem, a.e 63 (i 18 rfl), cb nb20 d 4]) rfl,
  fun f s W d i j l m a => by have cv_ := IntWalk.i64_in (jv 9) (by omega); exact opv rfl rfl (by simp [go_sem, a.e 64 (i 19 rfl), cv_]) rfl,
  fun f s W d i j l m a => opr rfl rfl (by simp [go_sem, a.e 59 (i 14 rfl), a.e 62 (i 17 rfl), a.e 65 (i 20 rfl)]),
  fun f s W d i j l m a => opv rfl rfl (by simp [go_sem, a.e 49 (i 4 rfl), a.e 52 (i 7 rfl), a.e 56 (i 11 rfl), a.e 66 (i 21 rfl).1, upd]) rfl,
  fun f s W d i j l m a => opDo_value (v := .slice (some ⟨W.heap.size, 0, none⟩) (1) (1)) rfl rfl (by simp [go_sem, a.e 67 (i 22 rfl), upd]) (balloc1 _ _) ⟨rfl, blk_new rfl⟩, trivial⟩ ?_
 intro f21 s21 W21 hB21 g21 hg21
 have fB21 := hB21.f fB20
 have z21 := hB21.below.size
 have b21_0 := hB21.b b20_0
 have b21_1 := hB21.b b20_1
 have b21_2 := hB21.b b20_2
 have b21_3 := hB21.b b20_3
 have b21_4 := hB21.b b20_4
 have b21_5 := hB21.b b20_5
 have b21_6 := hB21.b b20_6
 have b21_7 := hB21.b b20_7
 have b21_8 := hB21.b b20_8
 have b21_9 := hB21.b b20_9
 have b21_10 := hB21.b nb20
 have q17' := (q15'.below hB21.below)
 have q18' := (q16'.below hB21.below)
 obtain ⟨r21_21, br21_21⟩ := hB21.is 21
 have lr21_21 := hB21.lr 21 br21_21
 obtain ⟨r21_23, br21_23⟩ := hB21.is 23
 have lr21_23 := hB21.lr 23 br21_23
 have ne21_21_23 := hB21.nb 21 23
 have k21_3 := kt hg21 3 k19_3
 have k21_4 := kt hg21 4 k19_4
 have k21_5 := kt hg21 5 k19_5
 have k21_6 := kt hg21 6 k19_6
 have k21_7 := kt hg21 7 k19_7
 have k21_8 := kt hg21 8 k19_8
 have k21_70 := kt hg21 70 k19_70
 have k21_77 := kt hg21 77 k19_77
 have k21_78 := kt hg21 78 k19_78
 have k21_9 := kt hg21 9 k19_9
 have k21_10 := kt hg21 10 k19_10
 have k21_39 := kt hg21 39 k19_39
 have k21_44 := kt hg21 44 k19_44
 have k21_11 := kt hg21 11 k19_11
 have k21_45 := kt hg21 45 (hB21.is 0)
 have k21_66 := kt hg21 66 r21_21
 have k21_68 := kt hg21 68 r21_23
 obtain ⟨ga22, ca22, W22, ra22, ow22, ot22, z22, gg22, fB22⟩ := growN_tail 30 30 32 4 48 _ (by kernel_rfl) fl_infoJ rfl [.int .i64 (((jv 0) % 2)), .int .i64 ((jv 1)), .int .i64 (2 * (jv 0)), .slice (some ⟨(s11 21), 0, none⟩) (3) (3), .int .i64 (((jv 5) % 2)), .int .i64 ((jv 6)), .int .i64 (2 * (jv 5)), .slice (some ⟨(s21 21), 0, none⟩) (3) (3)] 2 (off := 0) (k := 1) (c' := 1) [.int .i64 (((jv 5) % 2)), .int .i64 ((jv 6)), .int .i64 (2 * (jv 5)), .slice (some ⟨(s21 21), 0, none⟩) (3) (3)] fB21 q17' rfl rfl rfl rfl (cells_at br21_23) (by omega)
 refine tail_value2 (o := _) rfl rfl rfl (run_appendOp (fr_ev k21_45) (fr_ev k21_68) ra22) ?_
 have b22_0 := ot22 _ _ (ownN_ne q17' b21_0 (by decide)) b21_0
 have b22_1 := ot22 _ _ (ownN_ne q17' b21_1 (by decide)) b21_1
 have b22_2 := ot22 _ _ (ownN_ne q17' b21_2 (by decide)) b21_2
 have b22_3 := ot22 _ _ (ownN_ne q17' b21_3 (by decide)) b21_3
 have b22_4 := ot22 _ _ (ownN_ne q17' b21_4 (by decide)) b21_4
 have b22_5 := ot22 _ _ (ownN_ne q17' b21_5 (by decide)) b21_5
 have b22_6 := ot22 _ _ (ownN_ne q17' b21_6 (by decide)) b21_6
 have b22_7 := ot22 _ _ (ownN_ne q17' b21_7 (by decide)) b21_7
 have b22_8 := ot22 _ _ (ownN_ne q17' b21_8 (by decide)) b21_8
 have b22_9 := ot22 _ _ (ownN_ne q17' b21_9 (by decide)) b21_9
 have b22_10 := ot22 _ _ (ownN_ne q17' b21_10 (by decide)) b21_10
 have b22_11 := ot22 _ _ (ownN_ne q17' br21_21 (by decide)) br21_21
 have q19' := OwnI.otherN q18' q17' ot22 z22
 have on22 : OwnN 32 4 w.heap.size 2 [.int .i64 (((jv 0) % 2)), .int .i64 ((jv 1)), .int .i64 (2 * (jv 0)), .slice (some ⟨(s11 21), 0, none⟩) (3) (3), .int .i64 (((jv 5) % 2)), .int .i64 ((jv 6)), .int .i64 (2 * (jv 5)), .slice (some ⟨(s21 21), 0, none⟩) (3) (3)] (some ⟨ga22, 0, none⟩) ca22 W22 := .inr ⟨_, rfl, ow22⟩
 generalize hg22 : upd g21 69 (.slice (some ⟨ga22, 0, none⟩) (2) (ca22)) = g22
 have k22_3 := ku hg22 3 k21_3
 have k22_4 := ku hg22 4 k21_4
 have k22_5 := ku hg22 5 k21_5
 have k22_6 := ku hg22 6 k21_6
 have k22_7 := ku hg22 7 k21_7
 have k22_8 := ku hg22 8 k21_8
 have k22_70 := ku hg22 70 k21_70
 have k22_77 := ku hg22 77 k21_77
 have k22_78 := ku hg22 78 k21_78
 have k22_9 := ku hg22 9 k21_9
 have k22_10 := ku hg22 10 k21_10
 have k22_39 := ku hg22 39 k21_39
 have k22_44 := ku hg22 44 k21_44
 have k22_11 := ku hg22 11 k21_11
 have k22_45 := ku hg22 45 k21_45
 have k22_66 := ku hg22 66 k21_66
 have k22_68 := ku hg22 68 k21_68
 have k22_69 := kt hg22 69 (upd_same _ _ _)
 obtain ⟨W23, hW23⟩ : ∃ W', W' = W22.setRow (s4 2) #[.slice (some ⟨ga22, 0, none⟩) (2) (ca22)] := ⟨_, rfl⟩
 refine tail_skip (o := _) rfl ⟨rfl, rfl⟩ (run_seg hW23 (fr_ev k22_8) (fr_ev k22_69) b22_7 rfl rfl rfl rfl) ?_
 obtain ⟨fB23, nb23, ot23, z23⟩ := seg_facts hW23 fB22 b22_7 (by omega)
 clear hW23
 have b23_0 := ot23 _ _ (by first | assumption | exact Ne.symm (by assumption) | omega) b22_0
 have b23_1 := ot23 _ _ (by first | assumption | exact Ne.symm (by assumption) | omega) b22_1
 have b23_2 := ot23 _ _ (by first | assumption | exact Ne.symm (by assumption) | omega) b22_2
 have b23_3 := ot23 _ _ (by first | assumption | exact Ne.symm (by assumption) | omega) b22_3
 have b23_4 := ot23 _ _ (by first | assumption | exact Ne.symm (by assumption) | omega) b22_4
 have b23_5 := ot23 _ _ (by first | assumption | exact Ne.symm (by assumption) | omega) b22_5
 have b23_6 := ot23 _ _ (by first | assumption | exact Ne.symm (by assumption) | omega) b22_6
 have b23_8 := ot23 _ _ (by first | assumption | exact Ne.symm (by assumption) | omega) b22_8
 have b23_9 := ot23 _ _ (by first | assumption | exact Ne.symm (by assumption) | omega) b22_9
 have b23_10 := ot23 _ _ (by first | assumption | exact Ne.symm (by assumption) | omega) b22_10
 have b23_11 := ot23 _ _ (by first | assumption | exact Ne.symm (by assumption) | omega) b22_11
 have q20' := q19'.other ot23 (by first | assumption | exact Ne.symm (by assumption) | omega) z23
 have q21' := on22.other ot23 (ownN_ne on22 b22_7 (by decide)) z23
 refine wpOps_end ?_
 refine hK17 _ _ ?_
 refine region_dk 8 [(70, 0), (71, 1), (72, 2), (73, 3), (74, 4), (75, 5), (76, 6), (77, 7), (78, 8), (9, 9)] [[], [], [], [2], [2, 3], [1, 2, 3, 4], [1, 2, 3, 4, 5], [1, 2, 3, 4, 5, 6], [0, 1, 2, 3, 4, 5, 6, 7], [0, 1, 2, 3, 4, 5, 6, 7, 8]] (rel [is (.slice (some ⟨ga15, 0, none⟩) (1) (ca15)),
   is (.int .i64 1),
   is (.pointer (some ⟨(s1 1), 2, none⟩)),
   is (.int .u8 ((chv 2))),
   is (.int .i64 ((chv 2))),
   is (.int .i64 (1 + (chv 2))),
   is (.int .i64 (((1 + (chv 2)) % 4))),
   row 7 1 #[.int .i64 (((1 + (chv 2)) % 4))] 3])
  ⟨is_k, is_k, is_k, is_k, is_k, is_k, is_k, row_k, trivial⟩
  ⟨fun f s W d i j l m a => opv rfl rfl (by simp [go_sem, a.e 9 ((l 9 9 rfl rfl).trans k22_9)]) rfl,
  fun f s W d i j l m a => opv rfl rfl (by simp [go_sem, a.e 10 k22_10]) rfl,
  fun f s W d i j l m a => opv rfl rfl (by simp [go_sem, a.e 4 k22_4]) rfl,
  fun f s W d i j l m a => opv rfl rfl (by simp [go_sem, a.e 72 (i 2 rfl), cb b23_1 d 2]) rfl,
  fun f s W d i j l m a => by have cv_ := IntWalk.i64_in (chv 2) (by omega); exact opv rfl rfl (by simp [go_sem, a.e 73 (i 3 rfl), cv_]) rfl,
  fun f s W d i j l m a => opv rfl rfl (by simp [go_sem, a.e 71 (i 1 rfl), a.e 74 (i 4 rfl), IntWalk.i64_in (1 + (chv 2)) (by omega)]) rfl,
  fun f s W d i j l m a => by have qu_ : (1 + (chv 2)).tmod 4 = ((1 + (chv 2)) % 4) := Int.tmod_eq_emod_of_nonneg (by omega); have qw_ := IntWalk.i64_in ((1 + (chv 2)) % 4) (by omega); exact opv rfl rfl (by simp [go_sem, a.e 75 (i 5 rfl), qu_, qw_]) rfl,
  fun f s W d i j l m a => opr rfl rfl (by simp [go_sem, a.e 76 (i 6 rfl)]), trivial⟩ ?_
 intro f24 s24 W24 hB24 g24 hg24
 have fB24 := hB24.f fB23
 have z24 := hB24.below.size
 have b24_0 := hB24.b b23_0
 have b24_1 := hB24.b b23_1
 have b24_2 := hB24.b b23_2
 have b24_3 := hB24.b b23_3
 have b24_4 := hB24.b b23_4
 have b24_5 := hB24.b b23_5
 have b24_6 := hB24.b b23_6
 have b24_7 := hB24.b nb23
 have b24_8 := hB24.b b23_8
 have b24_9 := hB24.b b23_9
 have b24_10 := hB24.b b23_10
 have b24_11 := hB24.b b23_11
 have q22' := (q20'.below hB24.below)
 have q23' := (q21'.below hB24.below)
 obtain ⟨r24_7, br24_7⟩ := hB24.is 7
 have lr24_7 := hB24.lr 7 br24_7
 have k24_3 := kt hg24 3 k22_3
 have k24_4 := kt hg24 4 k22_4
 have k24_5 := kt hg24 5 k22_5
 have k24_6 := kt hg24 6 k22_6
 have k24_7 := kt hg24 7 k22_7
 have k24_8 := kt hg24 8 k22_8
 have k24_10 := kt hg24 10 k22_10
 have k24_39 := kt hg24 39 k22_39
 have k24_44 := kt hg24 44 k22_44
 have k24_11 := kt hg24 11 k22_11
 have k24_45 := kt hg24 45 k22_45
 have k24_66 := kt hg24 66 k22_66
 have k24_68 := kt hg24 68 k22_68
 have k24_69 := kt hg24 69 k22_69
 have k24_70 := kt hg24 70 (hB24.is 0)
 have k24_77 := kt hg24 77 r24_7
 obtain ⟨ga25, ca25, W25, ra25, ow25, ot25, z25, gg25, fB25⟩ := growI_tail 25 (xs := [((chv 2) % 4)]) (c := ca15) [((chv 2) % 4), ((1 + (chv 2)) % 4)] 1 2 rfl rfl rfl fB24 q22' br24_7 rfl
 have lo25 := OwnI.lim ow25
 refine tail_value2 (o := _) rfl rfl rfl (run_appendOp (fr_ev k24_70) (fr_ev k24_77) ra25) ?_
 have b25_0 := ot25 _ _ (by first | assumption | exact Ne.symm (by assumption) | omega) b24_0
 have b25_1 := ot25 _ _ (by first | assumption | exact Ne.symm (by assumption) | omega) b24_1
 have b25_2 := ot25 _ _ (by first | assumption | exact Ne.symm (by assumption) | omega) b24_2
 have b25_3 := ot25 _ _ (by first | assumption | exact Ne.symm (by assumption) | omega) b24_3
 have b25_4 := ot25 _ _ (by first | assumption | exact Ne.symm (by assumption) | omega) b24_4
 have b25_5 := ot25 _ _ (by first | assumption | exact Ne.symm (by assumption) | omega) b24_5
 have b25_6 := ot25 _ _ (by first | assumption | exact Ne.symm (by assumption) | omega) b24_6
 have b25_7 := ot25 _ _ (by first | assumption | exact Ne.symm (by assumption) | omega) b24_7
 have b25_8 := ot25 _ _ (by first | assumption | exact Ne.symm (by assumption) | omega) b24_8
 have b25_9 := ot25 _ _ (by first | assumption | exact Ne.symm (by assumption) | omega) b24_9
 have b25_10 := ot25 _ _ (by first | assumption | exact Ne.symm (by assumption) | omega) b24_10
 have b25_11 := ot25 _ _ (by first | assumption | exact Ne.symm (by assumption) | omega) b24_11
 have q24' := OwnN.otherI q23' q22' ot25 z25
 generalize hg25 : upd g24 78 (.slice (some ⟨ga25, 0, none⟩) (2) (ca25)) = g25
 have k25_3 := ku hg25 3 k24_3
 have k25_4 := ku hg25 4 k24_4
 have k25_5 := ku hg25 5 k24_5
 have k25_6 := ku hg25 6 k24_6
 have k25_7 := ku hg25 7 k24_7
 have k25_8 := ku hg25 8 k24_8
 have k25_10 := ku hg25 10 k24_10
 have k25_39 := ku hg25 39 k24_39
 have k25_44 := ku hg25 44 k24_44
 have k25_11 := ku hg25 11 k24_11
 have k25_45 := ku hg25 45 k24_45
 have k25_66 := ku hg25 66 k24_66
 have k25_68 := ku hg25 68 k24_68
 have k25_69 := ku hg25 69 k24_69
 have k25_70 := ku hg25 70 k24_70
 have k25_77 := ku hg25 77 k24_77
 have k25_78 := kt hg25 78 (upd_same _ _ _)
 refine tail_value (o := _) rfl rfl rfl (v := .slice (some ⟨ga25, 0, none⟩) (2) (ca25)) (by simp [go_sem, frv 256 k25_78]) ?_
 generalize hg26 : upd g25 9 (.slice (some ⟨ga25, 0, none⟩) (2) (ca25)) = g26
 have k26_3 := ku hg26 3 k25_3
 have k26_4 := ku hg26 4 k25_4
 have k26_5 := ku hg26 5 k25_5
 have k26_6 := ku hg26 6 k25_6
 have k26_7 := ku hg26 7 k25_7
 have k26_8 := ku hg26 8 k25_8
 have k26_10 := ku hg26 10 k25_10
 have k26_39 := ku hg26 39 k25_39
 have k26_44 := ku hg26 44 k25_44
 have k26_11 := ku hg26 11 k25_11
 have k26_45 := ku hg26 45 k25_45
 have k26_66 := ku hg26 66 k25_66
 have k26_68 := ku hg26 68 k25_68
 have k26_69 := ku hg26 69 k25_69
 have k26_70 := ku hg26 70 k25_70
 have k26_77 := ku hg26 77 k25_77
 have k26_78 := ku hg26 78 k25_78
 have k26_9 := kt hg26 9 (upd_same _ _ _)
 refine wpOps_end ?_
 refine inBlock_normal ?_
 refine hK15 _ _ ?_
 refine region_dk 3 [(40, 0), (41, 1), (10, 2)] [[], [0], [0, 1]] (rel [is (.int .i64 1),
   is (.int .i64 2),
   is (.int .i64 2)])
  ⟨is_k, is_k, is_k, trivial⟩
  ⟨fun f s W d i j l m a => opv rfl rfl (by simp [go_sem, a.e 10 ((l 2 10 rfl rfl).trans k26_10)]) rfl,
  fun f s W d i j l m a => opv rfl rfl (by simp [go_sem, a.e 40 (i 0 rfl), IntWalk.i64_in (2) (by omega)]) rfl,
  fun f s W d i j l m a => opv rfl rfl (by simp [go_sem, a.e 41 (i 1 rfl)]) rfl, trivial⟩ ?_
 intro f27 s27 W27 hB27 g27 hg27
 have fB27 := hB27.f fB25
 have z27 := hB27.below.size
 have b27_0 := hB27.b b25_0
 have b27_1 := hB27.b b25_1
 have b27_2 := hB27.b b25_2
 have b27_3 := hB27.b b25_3
 have b27_4 := hB27.b b25_4
 have b27_5 := hB27.b b25_5
 have b27_6 := hB27.b b25_6
 have b27_7 := hB27.b b25_7
 have b27_8 := hB27.b b25_8
 have b27_9 := hB27.b b25_9
 have b27_10 := hB27.b b25_10
 have b27_11 := hB27.b b25_11
 have q25' := (q24'.below hB27.below)
 have q26' := (ow25.below hB27.below)
 refine wpOps_end ?_
 have k27_3 := kt hg27 3 k26_3
 have k27_4 := kt hg27 4 k26_4
 have k27_5 := kt hg27 5 k26_5
 have k27_6 := kt hg27 6 k26_6
 have k27_7 := kt hg27 7 k26_7
 have k27_8 := kt hg27 8 k26_8
 have k27_39 := kt hg27 39 k26_39
 have k27_44 := kt hg27 44 k26_44
 have k27_11 := kt hg27 11 k26_11
 have k27_45 := kt hg27 45 k26_45
 have k27_66 := kt hg27 66 k26_66
 have k27_68 := kt hg27 68 k26_68
 have k27_69 := kt hg27 69 k26_69
 have k27_70 := kt hg27 70 k26_70
 have k27_77 := kt hg27 77 k26_77
 have k27_78 := kt hg27 78 k26_78
 have k27_9 := kt hg27 9 k26_9
 have k27_10 := kt hg27 10 (hB27.is 2)
 refine then_normal ?_
 rw [rounds_succ]
 refine wp_seq_k fun K18 hK18 => ?_
 refine wp_seq_k fun K19 hK19 => ?_
 refine region_dk 2 [(38, 0), (39, 1)] [[], [0]] (rel [is (.int .i64 2),
   is (.bool true)])
  ⟨is_k, is_k, trivial⟩
  ⟨fun f s W d i j l m a => opv rfl rfl (by simp [go_sem, a.e 10 k27_10]) rfl,
  fun f s W d i j l m a => opv rfl rfl (by simp [go_sem, a.e 38 (i 0 rfl)]) rfl, trivial⟩ ?_
 intro f28 s28 W28 hB28 g28 hg28
 have fB28 := hB28.f fB27
 have z28 := hB28.below.size
 have b28_0 := hB28.b b27_0
 have b28_1 := hB28.b b27_1
 have b28_2 := hB28.b b27_2
 have b28_3 := hB28.b b27_3
 have b28_4 := hB28.b b27_4
 have b28_5 := hB28.b b27_5
 have b28_6 := hB28.b b27_6
 have b28_7 := hB28.b b27_7
 have b28_8 := hB28.b b27_8
 have b28_9 := hB28.b b27_9
 have b28_10 := hB28.b b27_10
 have b28_11 := hB28.b b27_11
 have q27' := (q25'.below hB28.below)
 have q28' := (q26'.below hB28.below)
 refine hK19 _ _ ?_
 have k28_3 := kt hg28 3 k27_3
 have k28_4 := kt hg28 4 k27_4
 have k28_5 := kt hg28 5 k27_5
 have k28_6 := kt hg28 6 k27_6
 have k28_7 := kt hg28 7 k27_7
 have k28_8 := kt hg28 8 k27_8
 have k28_44 := kt hg28 44 k27_44
 have k28_11 := kt hg28 11 k27_11
 have k28_45 := kt hg28 45 k27_45
 have k28_66 := kt hg28 66 k27_66
 have k28_68 := kt hg28 68 k27_68
 have k28_69 := kt hg28 69 k27_69
 have k28_70 := kt hg28 70 k27_70
 have k28_77 := kt hg28 77 k27_77
 have k28_78 := kt hg28 78 k27_78
 have k28_9 := kt hg28 9 k27_9
 have k28_10 := kt hg28 10 k27_10
 have k28_39 := kt hg28 39 (hB28.is 1)
 refine wp_cond_true ((fr_eval rfl).trans k28_39) ?_
 refine wp_skip ?_
 refine hK18 _ _ ?_
 refine wp_seq_k fun K21 hK21 => ?_
 refine wp_block ?_
 refine wp_seq_k fun K22 hK22 => ?_
 refine region_dk 4 [(42, 0), (43, 1), (44, 2), (11, 3)] [[], [0], [0, 1], [], [0, 1, 2, 3]] (rel [is (.int .i64 2),
   is (.pointer (some ⟨(s1 0), 10, none⟩)),
   is (.agg #[.int .u8 ((jv 10)), .int .u8 ((jv 11)), .int .u8 ((jv 12)), .int .u8 ((jv 13)), .int .u8 ((jv 14))]),
   bx 3 #[.int .u8 0, .int .u8 0, .int .u8 0, .int .u8 0, .int .u8 0] 22])
  ⟨is_k, is_k, is_k, bx_k, trivial⟩
  ⟨fun f s W d i j l m a => opv rfl rfl (by simp [go_sem, a.e 10 k28_10]) rfl,
  fun f s W d i j l m a => opv rfl rfl (by simp [go_sem, a.e 3 k28_3, a.e 42 (i 0 rfl)]) rfl,
  fun f s W d i j l m a => opv rfl rfl (by simp [go_sem, a.e 43 (i 1 rfl), cb b28_0 d 10, cb b28_0 d 11, cb b28_0 d 12, cb b28_0 d 13, cb b28_0 d 14]) rfl,
  fun f s W d i j l m a => opb rfl rfl (by simp [go_sem]), trivial⟩ ?_
 intro f29 s29 W29 hB29 g29 hg29
 have fB29 := hB29.f fB28
 have z29 := hB29.below.size
 have b29_0 := hB29.b b28_0
 have b29_1 := hB29.b b28_1
 have b29_2 := hB29.b b28_2
 have b29_3 := hB29.b b28_3
 have b29_4 := hB29.b b28_4
 have b29_5 := hB29.b b28_5
 have b29_6 := hB29.b b28_6
 have b29_7 := hB29.b b28_7
 have b29_8 := hB29.b b28_8
 have b29_9 := hB29.b b28_9
 have b29_10 := hB29.b b28_10
 have b29_11 := hB29.b b28_11
 have q29' := (q27'.below hB29.below)
 have q30' := (q28'.below hB29.below)
 obtain ⟨r29_3, br29_3⟩ := hB29.is 3
 have lr29_3 := hB29.lr 3 br29_3
 have k29_3 := kt hg29 3 k28_3
 have k29_4 := kt hg29 4 k28_4
 have k29_5 := kt hg29 5 k28_5
 have k29_6 := kt hg29 6 k28_6
 have k29_7 := kt hg29 7 k28_7
 have k29_8 := kt hg29 8 k28_8
 have k29_45 := kt hg29 45 k28_45
 have k29_66 := kt hg29 66 k28_66
 have k29_68 := kt hg29 68 k28_68
 have k29_69 := kt hg29 69 k28_69
 have k29_70 := kt hg29 70 k28_70
 have k29_77 := kt hg29 77 k28_77
 have k29_78 := kt hg29 78 k28_78
 have k29_9 := kt hg29 9 k28_9
 have k29_10 := kt hg29 10 k28_10
 have k29_39 := kt hg29 39 k28_39
 have k29_44 := kt hg29 44 (hB29.is 2)
 have k29_11 := kt hg29 11 r29_3
 obtain ⟨W30, hW30⟩ : ∃ W', W' = W29.setRow (s29 3) #[.int .u8 ((jv 10)), .int .u8 ((jv 11)), .int .u8 ((jv 12)), .int .u8 ((jv 13)), .int .u8 ((jv 14))] := ⟨_, rfl⟩
 refine tail_skip (o := _) rfl ⟨rfl, rfl⟩ (run_seg hW30 (fr_ev k29_11) (fr_ev k29_44) br29_3 rfl rfl rfl rfl) ?_
 obtain ⟨fB30, nb30, ot30, z30⟩ := seg_facts hW30 fB29 br29_3 (by omega)
 clear hW30
 have b30_0 := ot30 _ _ (by first | assumption | exact Ne.symm (by assumption) | omega) b29_0
 have b30_1 := ot30 _ _ (by first | assumption | exact Ne.symm (by assumption) | omega) b29_1
 have b30_2 := ot30 _ _ (by first | assumption | exact Ne.symm (by assumption) | omega) b29_2
 have b30_3 := ot30 _ _ (by first | assumption | exact Ne.symm (by assumption) | omega) b29_3
 have b30_4 := ot30 _ _ (by first | assumption | exact Ne.symm (by assumption) | omega) b29_4
 have b30_5 := ot30 _ _ (by first | assumption | exact Ne.symm (by assumption) | omega) b29_5
 have b30_6 := ot30 _ _ (by first | assumption | exact Ne.symm (by assumption) | omega) b29_6
 have b30_7 := ot30 _ _ (by first | assumption | exact Ne.symm (by assumption) | omega) b29_7
 have b30_8 := ot30 _ _ (by first | assumption | exact Ne.symm (by assumption) | omega) b29_8
 have b30_9 := ot30 _ _ (by first | assumption | exact Ne.symm (by assumption) | omega) b29_9
 have b30_10 := ot30 _ _ (by first | assumption | exact Ne.symm (by assumption) | omega) b29_10
 have b30_11 := ot30 _ _ (by first | assumption | exact Ne.symm (by assumption) | omega) b29_11
 have q31' := q29'.other ot30 (ownN_ne q29' br29_3 (by decide)) z30
 have q32' := q30'.other ot30 (by first | assumption | exact Ne.symm (by assumption) | omega) z30
 refine wpOps_end ?_
 refine hK22 _ _ ?_
 refine wp_seq_k fun K23 hK23 => ?_
 refine region_dk 24 [(45, 0), (46, 1), (47, 2), (48, 3), (49, 4), (50, 5), (51, 6), (52, 7), (53, 8), (54, 9), (55, 10), (56, 11), (57, 12), (58, 13), (59, 14), (60, 15), (61, 16), (62, 17), (63, 18), (64, 19), (65, 20), (66, 21), (67, 22), (68, 23), (69, 24)] [[], [], [1], [1, 2], [1, 2, 3], [], [5], [5, 6], [], [8], [8, 9], [8, 9, 10], [], [12], [12, 13], [], [15], [15, 16], [], [18], [18, 19], [12, 13, 14, 15, 16, 17, 18, 19, 20], [1, 2, 3, 4, 5, 6, 7, 8, 9, 10, 11, 12, 13, 14, 15, 16, 17, 18, 19, 20, 21], [1, 2, 3, 4, 5, 6, 7, 8, 9, 10, 11, 12, 13, 14, 15, 16, 17, 18, 19, 20, 21, 22], [0, 1, 2, 3, 4, 5, 6, 7, 8, 9, 10, 11, 12, 13, 14, 15, 16, 17, 18, 19, 20, 21, 22, 23], [0, 1, 2, 3, 4, 5, 6, 7, 8, 9, 10, 11, 12, 13, 14, 15, 16, 17, 18, 19, 20, 21, 22, 23, 24]] (rel [is (.slice (some ⟨ga22, 0, none⟩) (2) (ca22)),
   is (.pointer (some ⟨(s29 3), 0, none⟩)),
   is (.int .u8 ((jv 10))),
   is (.int .i64 ((jv 10))),
   is (.int .i64 (((jv 10) % 2))),
   is (.pointer (some ⟨(s29 3), 1, none⟩)),
   is (.int .u8 ((jv 11))),
   is (.int .i64 ((jv 11))),
   is (.pointer (some ⟨(s29 3), 0, none⟩)),
   is (.int .u8 ((jv 10))),
   is (.int .i64 ((jv 10))),
   is (.int .i64 (2 * (jv 10))),
   is (.pointer (some ⟨(s29 3), 2, none⟩)),
   is (.int .u8 ((jv 12))),
   is (.int .i64 ((jv 12))),
   is (.pointer (some ⟨(s29 3), 3, none⟩)),
   is (.int .u8 ((jv 13))),
   is (.int .i64 ((jv 13))),
   is (.pointer (some ⟨(s29 3), 4, none⟩)),
   is (.int .u8 ((jv 14))),
   is (.int .i64 ((jv 14))),
   row 21 3 #[.int .i64 ((jv 12)), .int .i64 ((jv 13)), .int .i64 ((jv 14))] 3,
   isS fun s => .agg #[.int .i64 (((jv 10) % 2)), .int .i64 ((jv 11)), .int .i64 (2 * (jv 10)), .slice (some ⟨(s 21), 0, none⟩) (3) (3)],
   fun v s W => v = .slice (some ⟨(s 23), 0, none⟩) (1) (1) ∧ W.heap[(s 23)]? = some (.cells #[.int .i64 (((jv 10) % 2)), .int .i64 ((jv 11)), .int .i64 (2 * (jv 10)), .slice (some ⟨(s 21), 0, none⟩) (3) (3)] 32 (0, 0))])
  ⟨is_k, is_k, is_k, is_k, is_k, is_k, is_k, is_k, is_k, is_k, is_k, is_k, is_k, is_k, is_k, is_k, is_k, is_k, is_k, is_k, is_k, row_k, isS_k fun s s' e => by rw [e 21 (by simp)], ⟨fun v k W W' hb h => ⟨h.1, blk_below h.2 hb⟩, fun v s s' W e h => by have h' : v = .slice (some ⟨(s 23), 0, none⟩) (1) (1) ∧ W.heap[(s 23)]? = some (.cells #[.int .i64 (((jv 10) % 2)), .int .i64 ((jv 11)), .int .i64 (2 * (jv 10)), .slice (some ⟨(s 21), 0, none⟩) (3) (3)] 32 (0, 0)) := h; show v = .slice (some ⟨(s' 23), 0, none⟩) (1) (1) ∧ W.heap[(s' 23)]? = some (.cells #[.int .i64 (((jv 10) % 2)), .int .i64 ((jv 11)), .int .i64 (2 * (jv 10)), .slice (some ⟨(s' 21), 0, none⟩) (3) (3)] 32 (0, 0)); rw [← e 21 (by simp), ← e 23 (by simp)]; exact h'⟩, trivial⟩
  ⟨fun f s W d i j l m a => opv rfl rfl (by simp [go_sem, a.e 8 k29_8, cb b30_7 d 0]) rfl,
  fun f s W d i j l m a => opv rfl rfl (by simp [go_sem, a.e 11 k29_11]) rfl,
  fun f s W d i j l m a => opv rfl rfl (by simp [go_sem, a.e 46 (i 1 rfl), cb nb30 d 0]) rfl,
  fun f s W d i j l m a => by have cv_ := IntWalk.i64_in (jv 10) (by omega); exact opv rfl rfl (by simp [go_sem, a.e 47 (i 2 rfl), cv_]) rfl,
  fun f s W d i j l m a => by have qu_ : ((jv 10)).tmod 2 = ((jv 10) % 2) := Int.tmod_eq_emod_of_nonneg (by omega); have qw_ := IntWalk.i64_in ((jv 10) % 2) (by omega); exact opv rfl rfl (by simp [go_sem, a.e 48 (i 3 rfl), qu_, qw_]) rfl,
  fun f s W d i j l m a => opv rfl rfl (by simp [go_sem, a.e 11 k29_11]) rfl,
  fun f s W d i j l m a => opv rfl rfl (by simp [go_sem, a.e 50 (i 5 rfl), cb nb30 d 1]) rfl,
  fun f s W d i j l m a => by have cv_ := IntWalk.i64_in (jv 11) (by omega); exact opv rfl rfl (by simp [go_sem, a.e 51 (i 6 rfl), cv_]) rfl,
  fun f s W d i j l m a => opv rfl rfl (by simp [go_sem, a.e 11 k29_11]) rfl,
  fun f s W d i j l m a => opv rfl rfl (by simp [go_sem, a.e 53 (i 8 rfl), cb nb30 d 0]) rfl,
  fun f s W d i j l m a => by have cv_ := IntWalk.i64_in (jv 10) (by omega); exact opv rfl rfl (by simp [go_sem, a.e 54 (i 9 rfl), cv_]) rfl,
  fun f s W d i j l m a => opv rfl rfl (by simp [go_sem, a.e 55 (i 10 rfl), IntWalk.i64_in (2 * (jv 10)) (by omega)]) rfl,
  fun f s W d i j l m a => opv rfl rfl (by simp [go_sem, a.e 11 k29_11]) rfl,
  fun f s W d i j l m a => opv rfl rfl (by simp [go_sem, a.e 57 (i 12 rfl), cb nb30 d 2]) rfl,
  fun f s W d i j l m a => by have cv_ := IntWalk.i64_in (jv 12) (by omega); exact opv rfl rfl (by simp [go_sem, a.e 58 (i 13 rfl), cv_]) rfl,
  fun f s W d i j l m a => opv rfl rfl (by simp [go_sem, a.e 11 k29_11]) rfl,
  fun f s W d i j l m a => opv rfl rfl (by simp [go_sem, a.e 60 (i 15 rfl), cb nb30 d 3]) rfl,
  fun f s W d i j l m a => by have cv_ := IntWalk.i64_in (jv 13) (by omega); exact opv rfl rfl (by simp [go_sem, a.e 61 (i 16 rfl), cv_]) rfl,
  fun f s W d i j l m a => opv rfl rfl (by simp [go_sem, a.e 11 k29_11]) rfl,
  fun f s W d i j l m a => opv rfl rfl (by simp [go_sem, a.e 63 (i 18 rfl), cb nb30 d 4]) rfl,
  fun f s W d i j l m a => by have cv_ := IntWalk.i64_in (jv 14) (by omega); exact opv rfl rfl (by simp [go_sem, a.e 64 (i 19 rfl), cv_]) rfl,
  fun f s W d i j l m a => opr rfl rfl (by simp [go_sem, a.e 59 (i 14 rfl), a.e 62 (i 17 rfl), a.e 65 (i 20 rfl)]),
  fun f s W d i j l m a => opv rfl rfl (by simp [go_sem, a.e 49 (i 4 rfl), a.e 52 (i 7 rfl), a.e 56 (i 11 rfl), a.e 66 (i 21 rfl).1, upd]) rfl,
  fun f s W d i j l m a => opDo_value (v := .slice (some ⟨W.heap.size, 0, none⟩) (1) (1)) rfl rfl (by simp [go_sem, a.e 67 (i 22 rfl), upd]) (balloc1 _ _) ⟨rfl, blk_new rfl⟩, trivial⟩ ?_
 intro f31 s31 W31 hB31 g31 hg31
 have fB31 := hB31.f fB30
 have z31 := hB31.below.size
 have b31_0 := hB31.b b30_0
 have b31_1 := hB31.b b30_1
 have b31_2 := hB31.b b30_2
 have b31_3 := hB31.b b30_3
 have b31_4 := hB31.b b30_4
 have b31_5 := hB31.b b30_5
 have b31_6 := hB31.b b30_6
 have b31_7 := hB31.b b30_7
 have b31_8 := hB31.b b30_8
 have b31_9 := hB31.b b30_9
 have b31_10 := hB31.b b30_10
 have b31_11 := hB31.b b30_11
 have b31_12 := hB31.b nb30
 have q33' := (q31'.below hB31.below)
 have q34' := (q32'.below hB31.below)
 obtain ⟨r31_21, br31_21⟩ := hB31.is 21
 have lr31_21 := hB31.lr 21 br31_21
 obtain ⟨r31_23, br31_23⟩ := hB31.is 23
 have lr31_23 := hB31.lr 23 br31_23
 have ne31_21_23 := hB31.nb 21 23
 have k31_3 := kt hg31 3 k29_3
 have k31_4 := kt hg31 4 k29_4
 have k31_5 := kt hg31 5 k29_5
 have k31_6 := kt hg31 6 k29_6
 have k31_7 := kt hg31 7 k29_7
 have k31_8 := kt hg31 8 k29_8
 have k31_70 := kt hg31 70 k29_70
 have k31_77 := kt hg31 77 k29_77
 have k31_78 := kt hg31 78 k29_78
 have k31_9 := kt hg31 9 k29_9
 have k31_10 := kt hg31 10 k29_10
 have k31_39 := kt hg31 39 k29_39
 have k31_44 := kt hg31 44 k29_44
 have k31_11 := kt hg31 11 k29_11
 have k31_45 := kt hg31 45 (hB31.is 0)
 have k31_66 := kt hg31 66 r31_21
 have k31_68 := kt hg31 68 r31_23
 obtain ⟨ga32, ca32, W32, ra32, ow32, ot32, z32, gg32, fB32⟩ := growN_tail 30 30 32 4 48 _ (by kernel_rfl) fl_infoJ rfl [.int .i64 (((jv 0) % 2)), .int .i64 ((jv 1)), .int .i64 (2 * (jv 0)), .slice (some ⟨(s11 21), 0, none⟩) (3) (3), .int .i64 (((jv 5) % 2)), .int .i64 ((jv 6)), .int .i64 (2 * (jv 5)), .slice (some ⟨(s21 21), 0, none⟩) (3) (3), .int .i64 (((jv 10) % 2)), .int .i64 ((jv 11)), .int .i64 (2 * (jv 10)), .slice (some ⟨(s31 21), 0, none⟩) (3) (3)] 3 (off := 0) (k := 1) (c' := 1) [.int .i64 (((jv 10) % 2)), .int .i64 ((jv 11)), .int .i64 (2 * (jv 10)), .slice (some ⟨(s31 21), 0, none⟩) (3) (3)] fB31 q33' rfl rfl rfl rfl (cells_at br31_23) (by omega)
 refine tail_value2 (o := _) rfl rfl rfl (run_appendOp (fr_ev k31_45) (fr_ev k31_68) ra32) ?_
 have b32_0 := ot32 _ _ (ownN_ne q33' b31_0 (by decide)) b31_0
 have b32_1 := ot32 _ _ (ownN_ne q33' b31_1 (by decide)) b31_1
 have b32_2 := ot32 _ _ (ownN_ne q33' b31_2 (by decide)) b31_2
 have b32_3 := ot32 _ _ (ownN_ne q33' b31_3 (by decide)) b31_3
 have b32_4 := ot32 _ _ (ownN_ne q33' b31_4 (by decide)) b31_4
 have b32_5 := ot32 _ _ (ownN_ne q33' b31_5 (by decide)) b31_5
 have b32_6 := ot32 _ _ (ownN_ne q33' b31_6 (by decide)) b31_6
 have b32_7 := ot32 _ _ (ownN_ne q33' b31_7 (by decide)) b31_7
 have b32_8 := ot32 _ _ (ownN_ne q33' b31_8 (by decide)) b31_8
 have b32_9 := ot32 _ _ (ownN_ne q33' b31_9 (by decide)) b31_9
 have b32_10 := ot32 _ _ (ownN_ne q33' b31_10 (by decide)) b31_10
 have b32_11 := ot32 _ _ (ownN_ne q33' b31_11 (by decide)) b31_11
 have b32_12 := ot32 _ _ (ownN_ne q33' b31_12 (by decide)) b31_12
 have b32_13 := ot32 _ _ (ownN_ne q33' br31_21 (by decide)) br31_21
 have q35' := OwnI.otherN q34' q33' ot32 z32
 have on32 : OwnN 32 4 w.heap.size 3 [.int .i64 (((jv 0) % 2)), .int .i64 ((jv 1)), .int .i64 (2 * (jv 0)), .slice (some ⟨(s11 21), 0, none⟩) (3) (3), .int .i64 (((jv 5) % 2)), .int .i64 ((jv 6)), .int .i64 (2 * (jv 5)), .slice (some ⟨(s21 21), 0, none⟩) (3) (3), .int .i64 (((jv 10) % 2)), .int .i64 ((jv 11)), .int .i64 (2 * (jv 10)), .slice (some ⟨(s31 21), 0, none⟩) (3) (3)] (some ⟨ga32, 0, none⟩) ca32 W32 := .inr ⟨_, rfl, ow32⟩
 generalize hg32 : upd g31 69 (.slice (some ⟨ga32, 0, none⟩) (3) (ca32)) = g32
 have k32_3 := ku hg32 3 k31_3
 have k32_4 := ku hg32 4 k31_4
 have k32_5 := ku hg32 5 k31_5
 have k32_6 := ku hg32 6 k31_6
 have k32_7 := ku hg32 7 k31_7
 have k32_8 := ku hg32 8 k31_8
 have k32_70 := ku hg32 70 k31_70
 have k32_77 := ku hg32 77 k31_77
 have k32_78 := ku hg32 78 k31_78
 have k32_9 := ku hg32 9 k31_9
 have k32_10 := ku hg32 10 k31_10
 have k32_39 := ku hg32 39 k31_39
 have k32_44 := ku hg32 44 k31_44
 have k32_11 := ku hg32 11 k31_11
 have k32_45 := ku hg32 45 k31_45
 have k32_66 := ku hg32 66 k31_66
 have k32_68 := ku hg32 68 k31_68
 have k32_69 := kt hg32 69 (upd_same _ _ _)
 obtain ⟨W33, hW33⟩ : ∃ W', W' = W32.setRow (s4 2) #[.slice (some ⟨ga32, 0, none⟩) (3) (ca32)] := ⟨_, rfl⟩
 refine tail_skip (o := _) rfl ⟨rfl, rfl⟩ (run_seg hW33 (fr_ev k32_8) (fr_ev k32_69) b32_7 rfl rfl rfl rfl) ?_
 obtain ⟨fB33, nb33, ot33, z33⟩ := seg_facts hW33 fB32 b32_7 (by omega)
 clear hW33
 have b33_0 := ot33 _ _ (by first | assumption | exact Ne.symm (by assumption) | omega) b32_0
 have b33_1 := ot33 _ _ (by first | assumption | exact Ne.symm (by assumption) | omega) b32_1
 have b33_2 := ot33 _ _ (by first | assumption | exact Ne.symm (by assumption) | omega) b32_2
 have b33_3 := ot33 _ _ (by first | assumption | exact Ne.symm (by assumption) | omega) b32_3
 have b33_4 := ot33 _ _ (by first | assumption | exact Ne.symm (by assumption) | omega) b32_4
 have b33_5 := ot33 _ _ (by first | assumption | exact Ne.symm (by assumption) | omega) b32_5
 have b33_6 := ot33 _ _ (by first | assumption | exact Ne.symm (by assumption) | omega) b32_6
 have b33_8 := ot33 _ _ (by first | assumption | exact Ne.symm (by assumption) | omega) b32_8
 have b33_9 := ot33 _ _ (by first | assumption | exact Ne.symm (by assumption) | omega) b32_9
 have b33_10 := ot33 _ _ (by first | assumption | exact Ne.symm (by assumption) | omega) b32_10
 have b33_11 := ot33 _ _ (by first | assumption | exact Ne.symm (by assumption) | omega) b32_11
 have b33_12 := ot33 _ _ (by first | assumption | exact Ne.symm (by assumption) | omega) b32_12
 have b33_13 := ot33 _ _ (by first | assumption | exact Ne.symm (by assumption) | omega) b32_13
 have q36' := q35'.other ot33 (by first | assumption | exact Ne.symm (by assumption) | omega) z33
 have q37' := on32.other ot33 (ownN_ne on32 b32_7 (by decide)) z33
 refine wpOps_end ?_
 refine hK23 _ _ ?_
 refine region_dk 8 [(70, 0), (71, 1), (72, 2), (73, 3), (74, 4), (75, 5), (76, 6), (77, 7), (78, 8), (9, 9)] [[], [], [], [2], [2, 3], [1, 2, 3, 4], [1, 2, 3, 4, 5], [1, 2, 3, 4, 5, 6], [0, 1, 2, 3, 4, 5, 6, 7], [0, 1, 2, 3, 4, 5, 6, 7, 8]] (rel [is (.slice (some ⟨ga25, 0, none⟩) (2) (ca25)),
   is (.int .i64 2),
   is (.pointer (some ⟨(s1 1), 2, none⟩)),
   is (.int .u8 ((chv 2))),
   is (.int .i64 ((chv 2))),
   is (.int .i64 (2 + (chv 2))),
   is (.int .i64 (((2 + (chv 2)) % 4))),
   row 7 1 #[.int .i64 (((2 + (chv 2)) % 4))] 3])
  ⟨is_k, is_k, is_k, is_k, is_k, is_k, is_k, row_k, trivial⟩
  ⟨fun f s W d i j l m a => opv rfl rfl (by simp [go_sem, a.e 9 ((l 9 9 rfl rfl).trans k32_9)]) rfl,
  fun f s W d i j l m a => opv rfl rfl (by simp [go_sem, a.e 10 k32_10]) rfl,
  fun f s W d i j l m a => opv rfl rfl (by simp [go_sem, a.e 4 k32_4]) rfl,
  fun f s W d i j l m a => opv rfl rfl (by simp [go_sem, a.e 72 (i 2 rfl), cb b33_1 d 2]) rfl,
  fun f s W d i j l m a => by have cv_ := IntWalk.i64_in (chv 2) (by omega); exact opv rfl rfl (by simp [go_sem, a.e 73 (i 3 rfl), cv_]) rfl,
  fun f s W d i j l m a => opv rfl rfl (by simp [go_sem, a.e 71 (i 1 rfl), a.e 74 (i 4 rfl), IntWalk.i64_in (2 + (chv 2)) (by omega)]) rfl,
  fun f s W d i j l m a => by have qu_ : (2 + (chv 2)).tmod 4 = ((2 + (chv 2)) % 4) := Int.tmod_eq_emod_of_nonneg (by omega); have qw_ := IntWalk.i64_in ((2 + (chv 2)) % 4) (by omega); exact opv rfl rfl (by simp [go_sem, a.e 75 (i 5 rfl), qu_, qw_]) rfl,
  fun f s W d i j l m a => opr rfl rfl (by simp [go_sem, a.e 76 (i 6 rfl)]), trivial⟩ ?_
 intro f34 s34 W34 hB34 g34 hg34
 have fB34 := hB34.f fB33
 have z34 := hB34.below.size
 have b34_0 := hB34.b b33_0
 have b34_1 := hB34.b b33_1
 have b34_2 := hB34.b b33_2
 have b34_3 := hB34.b b33_3
 have b34_4 := hB34.b b33_4
 have b34_5 := hB34.b b33_5
 have b34_6 := hB34.b b33_6
 have b34_7 := hB34.b nb33
 have b34_8 := hB34.b b33_8
 have b34_9 := hB34.b b33_9
 have b34_10 := hB34.b b33_10
 have b34_11 := hB34.b b33_11
 have b34_12 := hB34.b b33_12
 have b34_13 := hB34.b b33_13
 have q38' := (q36'.below hB34.below)
 have q39' := (q37'.below hB34.below)
 obtain ⟨r34_7, br34_7⟩ := hB34.is 7
 have lr34_7 := hB34.lr 7 br34_7
 have k34_3 := kt hg34 3 k32_3
 have k34_4 := kt hg34 4 k32_4
 have k34_5 := kt hg34 5 k32_5
 have k34_6 := kt hg34 6 k32_6
 have k34_7 := kt hg34 7 k32_7
 have k34_8 := kt hg34 8 k32_8
 have k34_10 := kt hg34 10 k32_10
 have k34_39 := kt hg34 39 k32_39
 have k34_44 := kt hg34 44 k32_44
 have k34_11 := kt hg34 11 k32_11
 have k34_45 := kt hg34 45 k32_45
 have k34_66 := kt hg34 66 k32_66
 have k34_68 := kt hg34 68 k32_68
 have k34_69 := kt hg34 69 k32_69
 have k34_70 := kt hg34 70 (hB34.is 0)
 have k34_77 := kt hg34 77 r34_7
 obtain ⟨ga35, ca35, W35, ra35, ow35, ot35, z35, gg35, fB35⟩ := growI_tail 25 (xs := [((chv 2) % 4), ((1 + (chv 2)) % 4)]) (c := ca25) [((chv 2) % 4), ((1 + (chv 2)) % 4), ((2 + (chv 2)) % 4)] 2 3 rfl rfl rfl fB34 q38' br34_7 rfl
 have lo35 := OwnI.lim ow35
 refine tail_value2 (o := _) rfl rfl rfl (run_appendOp (fr_ev k34_70) (fr_ev k34_77) ra35) ?_
 have b35_0 := ot35 _ _ (by first | assumption | exact Ne.symm (by assumption) | omega) b34_0
 have b35_1 := ot35 _ _ (by first | assumption | exact Ne.symm (by assumption) | omega) b34_1
 have b35_2 := ot35 _ _ (by first | assumption | exact Ne.symm (by assumption) | omega) b34_2
 have b35_3 := ot35 _ _ (by first | assumption | exact Ne.symm (by assumption) | omega) b34_3
 have b35_4 := ot35 _ _ (by first | assumption | exact Ne.symm (by assumption) | omega) b34_4
 have b35_5 := ot35 _ _ (by first | assumption | exact Ne.symm (by assumption) | omega) b34_5
 have b35_6 := ot35 _ _ (by first | assumption | exact Ne.symm (by assumption) | omega) b34_6
 have b35_7 := ot35 _ _ (by first | assumption | exact Ne.symm (by assumption) | omega) b34_7
 have b35_8 := ot35 _ _ (by first | assumption | exact Ne.symm (by assumption) | omega) b34_8
 have b35_9 := ot35 _ _ (by first | assumption | exact Ne.symm (by assumption) | omega) b34_9
 have b35_10 := ot35 _ _ (by first | assumption | exact Ne.symm (by assumption) | omega) b34_10
 have b35_11 := ot35 _ _ (by first | assumption | exact Ne.symm (by assumption) | omega) b34_11
 have b35_12 := ot35 _ _ (by first | assumption | exact Ne.symm (by assumption) | omega) b34_12
 have b35_13 := ot35 _ _ (by first | assumption | exact Ne.symm (by assumption) | omega) b34_13
 have q40' := OwnN.otherI q39' q38' ot35 z35
 generalize hg35 : upd g34 78 (.slice (some ⟨ga35, 0, none⟩) (3) (ca35)) = g35
 have k35_3 := ku hg35 3 k34_3
 have k35_4 := ku hg35 4 k34_4
 have k35_5 := ku hg35 5 k34_5
 have k35_6 := ku hg35 6 k34_6
 have k35_7 := ku hg35 7 k34_7
 have k35_8 := ku hg35 8 k34_8
 have k35_10 := ku hg35 10 k34_10
 have k35_39 := ku hg35 39 k34_39
 have k35_44 := ku hg35 44 k34_44
 have k35_11 := ku hg35 11 k34_11
 have k35_45 := ku hg35 45 k34_45
 have k35_66 := ku hg35 66 k34_66
 have k35_68 := ku hg35 68 k34_68
 have k35_69 := ku hg35 69 k34_69
 have k35_70 := ku hg35 70 k34_70
 have k35_77 := ku hg35 77 k34_77
 have k35_78 := kt hg35 78 (upd_same _ _ _)
 refine tail_value (o := _) rfl rfl rfl (v := .slice (some ⟨ga35, 0, none⟩) (3) (ca35)) (by simp [go_sem, frv 256 k35_78]) ?_
 generalize hg36 : upd g35 9 (.slice (some ⟨ga35, 0, none⟩) (3) (ca35)) = g36
 have k36_3 := ku hg36 3 k35_3
 have k36_4 := ku hg36 4 k35_4
 have k36_5 := ku hg36 5 k35_5
 have k36_6 := ku hg36 6 k35_6
 have k36_7 := ku hg36 7 k35_7
 have k36_8 := ku hg36 8 k35_8
 have k36_10 := ku hg36 10 k35_10
 have k36_39 := ku hg36 39 k35_39
 have k36_44 := ku hg36 44 k35_44
 have k36_11 := ku hg36 11 k35_11
 have k36_45 := ku hg36 45 k35_45
 have k36_66 := ku hg36 66 k35_66
 have k36_68 := ku hg36 68 k35_68
 have k36_69 := ku hg36 69 k35_69
 have k36_70 := ku hg36 70 k35_70
 have k36_77 := ku hg36 77 k35_77
 have k36_78 := ku hg36 78 k35_78
 have k36_9 := kt hg36 9 (upd_same _ _ _)
 refine wpOps_end ?_
 refine inBlock_normal ?_
 refine hK21 _ _ ?_
 refine region_dk 3 [(40, 0), (41, 1), (10, 2)] [[], [0], [0, 1]] (rel [is (.int .i64 2),
   is (.int .i64 3),
   is (.int .i64 3)])
  ⟨is_k, is_k, is_k, trivial⟩
  ⟨fun f s W d i j l m a => opv rfl rfl (by simp [go_sem, a.e 10 ((l 2 10 rfl rfl).trans k36_10)]) rfl,
  fun f s W d i j l m a => opv rfl rfl (by simp [go_sem, a.e 40 (i 0 rfl), IntWalk.i64_in (3) (by omega)]) rfl,
  fun f s W d i j l m a => opv rfl rfl (by simp [go_sem, a.e 41 (i 1 rfl)]) rfl, trivial⟩ ?_
 intro f37 s37 W37 hB37 g37 hg37
 have fB37 := hB37.f fB35
 have z37 := hB37.below.size
 have b37_0 := hB37.b b35_0
 have b37_1 := hB37.b b35_1
 have b37_2 := hB37.b b35_2
 have b37_3 := hB37.b b35_3
 have b37_4 := hB37.b b35_4
 have b37_5 := hB37.b b35_5
 have b37_6 := hB37.b b35_6
 have b37_7 := hB37.b b35_7
 have b37_8 := hB37.b b35_8
 have b37_9 := hB37.b b35_9
 have b37_10 := hB37.b b35_10
 have b37_11 := hB37.b b35_11
 have b37_12 := hB37.b b35_12
 have b37_13 := hB37.b b35_13
 have q41' := (q40'.below hB37.below)
 have q42' := (ow35.below hB37.below)
 refine wpOps_end ?_
 have k37_3 := kt hg37 3 k36_3
 have k37_4 := kt hg37 4 k36_4
 have k37_5 := kt hg37 5 k36_5
 have k37_6 := kt hg37 6 k36_6
 have k37_7 := kt hg37 7 k36_7
 have k37_8 := kt hg37 8 k36_8
 have k37_39 := kt hg37 39 k36_39
 have k37_44 := kt hg37 44 k36_44
 have k37_11 := kt hg37 11 k36_11
 have k37_45 := kt hg37 45 k36_45
 have k37_66 := kt hg37 66 k36_66
 have k37_68 := kt hg37 68 k36_68
 have k37_69 := kt hg37 69 k36_69
 have k37_70 := kt hg37 70 k36_70
 have k37_77 := kt hg37 77 k36_77
 have k37_78 := kt hg37 78 k36_78
 have k37_9 := kt hg37 9 k36_9
 have k37_10 := kt hg37 10 (hB37.is 2)
 refine then_normal ?_
 rw [rounds_succ]
 refine wp_seq_k fun K24 hK24 => ?_
 refine wp_seq_k fun K25 hK25 => ?_
 refine region_dk 2 [(38, 0), (39, 1)] [[], [0]] (rel [is (.int .i64 3),
   is (.bool true)])
  ⟨is_k, is_k, trivial⟩
  ⟨fun f s W d i j l m a => opv rfl rfl (by simp [go_sem, a.e 10 k37_10]) rfl,
  fun f s W d i j l m a => opv rfl rfl (by simp [go_sem, a.e 38 (i 0 rfl)]) rfl, trivial⟩ ?_
 intro f38 s38 W38 hB38 g38 hg38
 have fB38 := hB38.f fB37
 have z38 := hB38.below.size
 have b38_0 := hB38.b b37_0
 have b38_1 := hB38.b b37_1
 have b38_2 := hB38.b b37_2
 have b38_3 := hB38.b b37_3
 have b38_4 := hB38.b b37_4
 have b38_5 := hB38.b b37_5
 have b38_6 := hB38.b b37_6
 have b38_7 := hB38.b b37_7
 have b38_8 := hB38.b b37_8
 have b38_9 := hB38.b b37_9
 have b38_10 := hB38.b b37_10
 have b38_11 := hB38.b b37_11
 have b38_12 := hB38.b b37_12
 have b38_13 := hB38.b b37_13
 have q43' := (q41'.below hB38.below)
 have q44' := (q42'.below hB38.below)
 refine hK25 _ _ ?_
 have k38_3 := kt hg38 3 k37_3
 have k38_4 := kt hg38 4 k37_4
 have k38_5 := kt hg38 5 k37_5
 have k38_6 := kt hg38 6 k37_6
 have k38_7 := kt hg38 7 k37_7
 have k38_8 := kt hg38 8 k37_8
 have k38_44 := kt hg38 44 k37_44
 have k38_11 := kt hg38 11 k37_11
 have k38_45 := kt hg38 45 k37_45
 have k38_66 := kt hg38 66 k37_66
 have k38_68 := kt hg38 68 k37_68
 have k38_69 := kt hg38 69 k37_69
 have k38_70 := kt hg38 70 k37_70
 have k38_77 := kt hg38 77 k37_77
 have k38_78 := kt hg38 78 k37_78
 have k38_9 := kt hg38 9 k37_9
 have k38_10 := kt hg38 10 k37_10
 have k38_39 := kt hg38 39 (hB38.is 1)
 refine wp_cond_true ((fr_eval rfl).trans k38_39) ?_
 refine wp_skip ?_
 refine hK24 _ _ ?_
 refine wp_seq_k fun K27 hK27 => ?_
 refine wp_block ?_
 refine wp_seq_k fun K28 hK28 => ?_
 refine region_dk 4 [(42, 0), (43, 1), (44, 2), (11, 3)] [[], [0], [0, 1], [], [0, 1, 2, 3]] (rel [is (.int .i64 3),
   is (.pointer (some ⟨(s1 0), 15, none⟩)),
   is (.agg #[.int .u8 ((jv 15)), .int .u8 ((jv 16)), .int .u8 ((jv 17)), .int .u8 ((jv 18)), .int .u8 ((jv 19))]),
   bx 3 #[.int .u8 0, .int .u8 0, .int .u8 0, .int .u8 0, .int .u8 0] 22])
  ⟨is_k, is_k, is_k, bx_k, trivial⟩
  ⟨fun f s W d i j l m a => opv rfl rfl (by simp [go_sem, a.e 10 k38_10]) rfl,
  fun f s W d i j l m a => opv rfl rfl (by simp [go_sem, a.e 3 k38_3, a.e 42 (i 0 rfl)]) rfl,
  fun f s W d i j l m a => opv rfl rfl (by simp [go_sem, a.e 43 (i 1 rfl), cb b38_0 d 15, cb b38_0 d 16, cb b38_0 d 17, cb b38_0 d 18, cb b38_0 d 19]) rfl,
  fun f s W d i j l m a => opb rfl rfl (by simp [go_sem]), trivial⟩ ?_
 intro f39 s39 W39 hB39 g39 hg39
 have fB39 := hB39.f fB38
 have z39 := hB39.below.size
 have b39_0 := hB39.b b38_0
 have b39_1 := hB39.b b38_1
 have b39_2 := hB39.b b38_2
 have b39_3 := hB39.b b38_3
 have b39_4 := hB39.b b38_4
 have b39_5 := hB39.b b38_5
 have b39_6 := hB39.b b38_6
 have b39_7 := hB39.b b38_7
 have b39_8 := hB39.b b38_8
 have b39_9 := hB39.b b38_9
 have b39_10 := hB39.b b38_10
 have b39_11 := hB39.b b38_11
 have b39_12 := hB39.b b38_12
 have b39_13 := hB39.b b38_13
 have q45' := (q43'.below hB39.below)
 have q46' := (q44'.below hB39.below)
 obtain ⟨r39_3, br39_3⟩ := hB39.is 3
 have lr39_3 := hB39.lr 3 br39_3
 have k39_3 := kt hg39 3 k38_3
 have k39_4 := kt hg39 4 k38_4
 have k39_5 := kt hg39 5 k38_5
 have k39_6 := kt hg39 6 k38_6
 have k39_7 := kt hg39 7 k38_7
 have k39_8 := kt hg39 8 k38_8
 have k39_45 := kt hg39 45 k38_45
 have k39_66 := kt hg39 66 k38_66
 have k39_68 := kt hg39 68 k38_68
 have k39_69 := kt hg39 69 k38_69
 have k39_70 := kt hg39 70 k38_70
 have k39_77 := kt hg39 77 k38_77
 have k39_78 := kt hg39 78 k38_78
 have k39_9 := kt hg39 9 k38_9
 have k39_10 := kt hg39 10 k38_10
 have k39_39 := kt hg39 39 k38_39
 have k39_44 := kt hg39 44 (hB39.is 2)
 have k39_11 := kt hg39 11 r39_3
 obtain ⟨W40, hW40⟩ : ∃ W', W' = W39.setRow (s39 3) #[.int .u8 ((jv 15)), .int .u8 ((jv 16)), .int .u8 ((jv 17)), .int .u8 ((jv 18)), .int .u8 ((jv 19))] := ⟨_, rfl⟩
 refine tail_skip (o := _) rfl ⟨rfl, rfl⟩ (run_seg hW40 (fr_ev k39_11) (fr_ev k39_44) br39_3 rfl rfl rfl rfl) ?_
 obtain ⟨fB40, nb40, ot40, z40⟩ := seg_facts hW40 fB39 br39_3 (by omega)
 clear hW40
 have b40_0 := ot40 _ _ (by first | assumption | exact Ne.symm (by assumption) | omega) b39_0
 have b40_1 := ot40 _ _ (by first | assumption | exact Ne.symm (by assumption) | omega) b39_1
 have b40_2 := ot40 _ _ (by first | assumption | exact Ne.symm (by assumption) | omega) b39_2
 have b40_3 := ot40 _ _ (by first | assumption | exact Ne.symm (by assumption) | omega) b39_3
 have b40_4 := ot40 _ _ (by first | assumption | exact Ne.symm (by assumption) | omega) b39_4
 have b40_5 := ot40 _ _ (by first | assumption | exact Ne.symm (by assumption) | omega) b39_5
 have b40_6 := ot40 _ _ (by first | assumption | exact Ne.symm (by assumption) | omega) b39_6
 have b40_7 := ot40 _ _ (by first | assumption | exact Ne.symm (by assumption) | omega) b39_7
 have b40_8 := ot40 _ _ (by first | assumption | exact Ne.symm (by assumption) | omega) b39_8
 have b40_9 := ot40 _ _ (by first | assumption | exact Ne.symm (by assumption) | omega) b39_9
 have b40_10 := ot40 _ _ (by first | assumption | exact Ne.symm (by assumption) | omega) b39_10
 have b40_11 := ot40 _ _ (by first | assumption | exact Ne.symm (by assumption) | omega) b39_11
 have b40_12 := ot40 _ _ (by first | assumption | exact Ne.symm (by assumption) | omega) b39_12
 have b40_13 := ot40 _ _ (by first | assumption | exact Ne.symm (by assumption) | omega) b39_13
 have q47' := q45'.other ot40 (ownN_ne q45' br39_3 (by decide)) z40
 have q48' := q46'.other ot40 (by first | assumption | exact Ne.symm (by assumption) | omega) z40
 refine wpOps_end ?_
 refine hK28 _ _ ?_
 refine wp_seq_k fun K29 hK29 => ?_
 refine region_dk 24 [(45, 0), (46, 1), (47, 2), (48, 3), (49, 4), (50, 5), (51, 6), (52, 7), (53, 8), (54, 9), (55, 10), (56, 11), (57, 12), (58, 13), (59, 14), (60, 15), (61, 16), (62, 17), (63, 18), (64, 19), (65, 20), (66, 21), (67, 22), (68, 23), (69, 24)] [[], [], [1], [1, 2], [1, 2, 3], [], [5], [5, 6], [], [8], [8, 9], [8, 9, 10], [], [12], [12, 13], [], [15], [15, 16], [], [18], [18, 19], [12, 13, 14, 15, 16, 17, 18, 19, 20], [1, 2, 3, 4, 5, 6, 7, 8, 9, 10, 11, 12, 13, 14, 15, 16, 17, 18, 19, 20, 21], [1, 2, 3, 4, 5, 6, 7, 8, 9, 10, 11, 12, 13, 14, 15, 16, 17, 18, 19, 20, 21, 22], [0, 1, 2, 3, 4, 5, 6, 7, 8, 9, 10, 11, 12, 13, 14, 15, 16, 17, 18, 19, 20, 21, 22, 23], [0, 1, 2, 3, 4, 5, 6, 7, 8, 9, 10, 11, 12, 13, 14, 15, 16, 17, 18, 19, 20, 21, 22, 23, 24]] (rel [is (.slice (some ⟨ga32, 0, none⟩) (3) (ca32)),
   is (.pointer (some ⟨(s39 3), 0, none⟩)),
   is (.int .u8 ((jv 15))),
   is (.int .i64 ((jv 15))),
   is (.int .i64 (((jv 15) % 2))),
   is (.pointer (some ⟨(s39 3), 1, none⟩)),
   is (.int .u8 ((jv 16))),
   is (.int .i64 ((jv 16))),
   is (.pointer (some ⟨(s39 3), 0, none⟩)),
   is (.int .u8 ((jv 15))),
   is (.int .i64 ((jv 15))),
   is (.int .i64 (2 * (jv 15))),
   is (.pointer (some ⟨(s39 3), 2, none⟩)),
   is (.int .u8 ((jv 17))),
   is (.int .i64 ((jv 17))),
   is (.pointer (some ⟨(s39 3), 3, none⟩)),
   is (.int .u8 ((jv 18))),
   is (.int .i64 ((jv 18))),
   is (.pointer (some ⟨(s39 3), 4, none⟩)),
   is (.int .u8 ((jv 19))),
   is (.int .i64 ((jv 19))),
   row 21 3 #[.int .i64 ((jv 17)), .int .i64 ((jv 18)), .int .i64 ((jv 19))] 3,
   isS fun s => .agg #[.int .i64 (((jv 15) % 2)), .int .i64 ((jv 16)), .int .i64 (2 * (jv 15)), .slice (some ⟨(s 21), 0, none⟩) (3) (3)],
   fun v s W => v = .slice (some ⟨(s 23), 0, none⟩) (1) (1) ∧ W.heap[(s 23)]? = some (.cells #[.int .i64 (((jv 15) % 2)), .int .i64 ((jv 16)), .int .i64 (2 * (jv 15)), .slice (some ⟨(s 21), 0, none⟩) (3) (3)] 32 (0, 0))])
  ⟨is_k, is_k, is_k, is_k, is_k, is_k, is_k, is_k, is_k, is_k, is_k, is_k, is_k, is_k, is_k, is_k, is_k, is_k, is_k, is_k, is_k, row_k, isS_k fun s s' e => by rw [e 21 (by simp)], ⟨fun v k W W' hb h => ⟨h.1, blk_below h.2 hb⟩, fun v s s' W e h => by have h' : v = .slice (some ⟨(s 23), 0, none⟩) (1) (1) ∧ W.heap[(s 23)]? = some (.cells #[.int .i64 (((jv 15) % 2)), .int .i64 ((jv 16)), .int .i64 (2 * (jv 15)), .slice (some ⟨(s 21), 0, none⟩) (3) (3)] 32 (0, 0)) := h; show v = .slice (some ⟨(s' 23), 0, none⟩) (1) (1) ∧ W.heap[(s' 23)]? = some (.cells #[.int .i64 (((jv 15) % 2)), .int .i64 ((jv 16)), .int .i64 (2 * (jv 15)), .slice (some ⟨(s' 21), 0, none⟩) (3) (3)] 32 (0, 0)); rw [← e 21 (by simp), ← e 23 (by simp)]; exact h'⟩, trivial⟩
  ⟨fun f s W d i j l m a => opv rfl rfl (by simp [go_sem, a.e 8 k39_8, cb b40_7 d 0]) rfl,
  fun f s W d i j l m a => opv rfl rfl (by simp [go_sem, a.e 11 k39_11]) rfl,
  fun f s W d i j l m a => opv rfl rfl (by simp [go_sem, a.e 46 (i 1 rfl), cb nb40 d 0]) rfl,
  fun f s W d i j l m a => by have cv_ := IntWalk.i64_in (jv 15) (by omega); exact opv rfl rfl (by simp [go_sem, a.e 47 (i 2 rfl), cv_]) rfl,
  fun f s W d i j l m a => by have qu_ : ((jv 15)).tmod 2 = ((jv 15) % 2) := Int.tmod_eq_emod_of_nonneg (by omega); have qw_ := IntWalk.i64_in ((jv 15) % 2) (by omega); exact opv rfl rfl (by simp [go_sem, a.e 48 (i 3 rfl), qu_, qw_]) rfl,
  fun f s W d i j l m a => opv rfl rfl (by simp [go_sem, a.e 11 k39_11]) rfl,
  fun f s W d i j l m a => opv rfl rfl (by simp [go_sem, a.e 50 (i 5 rfl), cb nb40 d 1]) rfl,
  fun f s W d i j l m a => by have cv_ := IntWalk.i64_in (jv 16) (by omega); exact opv rfl rfl (by simp [go_sem, a.e 51 (i 6 rfl), cv_]) rfl,
  fun f s W d i j l m a => opv rfl rfl (by simp [go_sem, a.e 11 k39_11]) rfl,
  fun f s W d i j l m a => opv rfl rfl (by simp [go_sem, a.e 53 (i 8 rfl), cb nb40 d 0]) rfl,
  fun f s W d i j l m a => by have cv_ := IntWalk.i64_in (jv 15) (by omega); exact opv rfl rfl (by simp [go_sem, a.e 54 (i 9 rfl), cv_]) rfl,
  fun f s W d i j l m a => opv rfl rfl (by simp [go_sem, a.e 55 (i 10 rfl), IntWalk.i64_in (2 * (jv 15)) (by omega)]) rfl,
  fun f s W d i j l m a => opv rfl rfl (by simp [go_sem, a.e 11 k39_11]) rfl,
  fun f s W d i j l m a => opv rfl rfl (by simp [go_sem, a.e 57 (i 12 rfl), cb nb40 d 2]) rfl,
  fun f s W d i j l m a => by have cv_ := IntWalk.i64_in (jv 17) (by omega); exact opv rfl rfl (by simp [go_sem, a.e 58 (i 13 rfl), cv_]) rfl,
  fun f s W d i j l m a => opv rfl rfl (by simp [go_sem, a.e 11 k39_11]) rfl,
  fun f s W d i j l m a => opv rfl rfl (by simp [go_sem, a.e 60 (i 15 rfl), cb nb40 d 3]) rfl,
  fun f s W d i j l m a => by have cv_ := IntWalk.i64_in (jv 18) (by omega); exact opv rfl rfl (by simp [go_sem, a.e 61 (i 16 rfl), cv_]) rfl,
  fun f s W d i j l m a => opv rfl rfl (by simp [go_sem, a.e 11 k39_11]) rfl,
  fun f s W d i j l m a => opv rfl rfl (by simp [go_sem, a.e 63 (i 18 rfl), cb nb40 d 4]) rfl,
  fun f s W d i j l m a => by have cv_ := IntWalk.i64_in (jv 19) (by omega); exact opv rfl rfl (by simp [go_sem, a.e 64 (i 19 rfl), cv_]) rfl,
  fun f s W d i j l m a => opr rfl rfl (by simp [go_sem, a.e 59 (i 14 rfl), a.e 62 (i 17 rfl), a.e 65 (i 20 rfl)]),
  fun f s W d i j l m a => opv rfl rfl (by simp [go_sem, a.e 49 (i 4 rfl), a.e 52 (i 7 rfl), a.e 56 (i 11 rfl), a.e 66 (i 21 rfl).1, upd]) rfl,
  fun f s W d i j l m a => opDo_value (v := .slice (some ⟨W.heap.size, 0, none⟩) (1) (1)) rfl rfl (by simp [go_sem, a.e 67 (i 22 rfl), upd]) (balloc1 _ _) ⟨rfl, blk_new rfl⟩, trivial⟩ ?_
 intro f41 s41 W41 hB41 g41 hg41
 have fB41 := hB41.f fB40
 have z41 := hB41.below.size
 have b41_0 := hB41.b b40_0
 have b41_1 := hB41.b b40_1
 have b41_2 := hB41.b b40_2
 have b41_3 := hB41.b b40_3
 have b41_4 := hB41.b b40_4
 have b41_5 := hB41.b b40_5
 have b41_6 := hB41.b b40_6
 have b41_7 := hB41.b b40_7
 have b41_8 := hB41.b b40_8
 have b41_9 := hB41.b b40_9
 have b41_10 := hB41.b b40_10
 have b41_11 := hB41.b b40_11
 have b41_12 := hB41.b b40_12
 have b41_13 := hB41.b b40_13
 have b41_14 := hB41.b nb40
 have q49' := (q47'.below hB41.below)
 have q50' := (q48'.below hB41.below)
 obtain ⟨r41_21, br41_21⟩ := hB41.is 21
 have lr41_21 := hB41.lr 21 br41_21
 obtain ⟨r41_23, br41_23⟩ := hB41.is 23
 have lr41_23 := hB41.lr 23 br41_23
 have ne41_21_23 := hB41.nb 21 23
 have k41_3 := kt hg41 3 k39_3
 have k41_4 := kt hg41 4 k39_4
 have k41_5 := kt hg41 5 k39_5
 have k41_6 := kt hg41 6 k39_6
 have k41_7 := kt hg41 7 k39_7
 have k41_8 := kt hg41 8 k39_8
 have k41_70 := kt hg41 70 k39_70
 have k41_77 := kt hg41 77 k39_77
 have k41_78 := kt hg41 78 k39_78
 have k41_9 := kt hg41 9 k39_9
 have k41_10 := kt hg41 10 k39_10
 have k41_39 := kt hg41 39 k39_39
 have k41_44 := kt hg41 44 k39_44
 have k41_11 := kt hg41 11 k39_11
 have k41_45 := kt hg41 45 (hB41.is 0)
 have k41_66 := kt hg41 66 r41_21
 have k41_68 := kt hg41 68 r41_23
 obtain ⟨ga42, ca42, W42, ra42, ow42, ot42, z42, gg42, fB42⟩ := growN_tail 30 30 32 4 48 _ (by kernel_rfl) fl_infoJ rfl [.int .i64 (((jv 0) % 2)), .int .i64 ((jv 1)), .int .i64 (2 * (jv 0)), .slice (some ⟨(s11 21), 0, none⟩) (3) (3), .int .i64 (((jv 5) % 2)), .int .i64 ((jv 6)), .int .i64 (2 * (jv 5)), .slice (some ⟨(s21 21), 0, none⟩) (3) (3), .int .i64 (((jv 10) % 2)), .int .i64 ((jv 11)), .int .i64 (2 * (jv 10)), .slice (some ⟨(s31 21), 0, none⟩) (3) (3), .int .i64 (((jv 15) % 2)), .int .i64 ((jv 16)), .int .i64 (2 * (jv 15)), .slice (some ⟨(s41 21), 0, none⟩) (3) (3)] 4 (off := 0) (k := 1) (c' := 1) [.int .i64 (((jv 15) % 2)), .int .i64 ((jv 16)), .int .i64 (2 * (jv 15)), .slice (some ⟨(s41 21), 0, none⟩) (3) (3)] fB41 q49' rfl rfl rfl rfl (cells_at br41_23) (by omega)
 refine tail_value2 (o := _) rfl rfl rfl (run_appendOp (fr_ev k41_45) (fr_ev k41_68) ra42) ?_
 have b42_0 := ot42 _ _ (ownN_ne q49' b41_0 (by decide)) b41_0
 have b42_1 := ot42 _ _ (ownN_ne q49' b41_1 (by decide)) b41_1
 have b42_2 := ot42 _ _ (ownN_ne q49' b41_2 (by decide)) b41_2
 have b42_3 := ot42 _ _ (ownN_ne q49' b41_3 (by decide)) b41_3
 have b42_4 := ot42 _ _ (ownN_ne q49' b41_4 (by decide)) b41_4
 have b42_5 := ot42 _ _ (ownN_ne q49' b41_5 (by decide)) b41_5
 have b42_6 := ot42 _ _ (ownN_ne q49' b41_6 (by decide)) b41_6
 have b42_7 := ot42 _ _ (ownN_ne q49' b41_7 (by decide)) b41_7
 have b42_8 := ot42 _ _ (ownN_ne q49' b41_8 (by decide)) b41_8
 have b42_9 := ot42 _ _ (ownN_ne q49' b41_9 (by decide)) b41_9
 have b42_10 := ot42 _ _ (ownN_ne q49' b41_10 (by decide)) b41_10
 have b42_11 := ot42 _ _ (ownN_ne q49' b41_11 (by decide)) b41_11
 have b42_12 := ot42 _ _ (ownN_ne q49' b41_12 (by decide)) b41_12
 have b42_13 := ot42 _ _ (ownN_ne q49' b41_13 (by decide)) b41_13
 have b42_14 := ot42 _ _ (ownN_ne q49' b41_14 (by decide)) b41_14
 have b42_15 := ot42 _ _ (ownN_ne q49' br41_21 (by decide)) br41_21
 have q51' := OwnI.otherN q50' q49' ot42 z42
 have on42 : OwnN 32 4 w.heap.size 4 [.int .i64 (((jv 0) % 2)), .int .i64 ((jv 1)), .int .i64 (2 * (jv 0)), .slice (some ⟨(s11 21), 0, none⟩) (3) (3), .int .i64 (((jv 5) % 2)), .int .i64 ((jv 6)), .int .i64 (2 * (jv 5)), .slice (some ⟨(s21 21), 0, none⟩) (3) (3), .int .i64 (((jv 10) % 2)), .int .i64 ((jv 11)), .int .i64 (2 * (jv 10)), .slice (some ⟨(s31 21), 0, none⟩) (3) (3), .int .i64 (((jv 15) % 2)), .int .i64 ((jv 16)), .int .i64 (2 * (jv 15)), .slice (some ⟨(s41 21), 0, none⟩) (3) (3)] (some ⟨ga42, 0, none⟩) ca42 W42 := .inr ⟨_, rfl, ow42⟩
 generalize hg42 : upd g41 69 (.slice (some ⟨ga42, 0, none⟩) (4) (ca42)) = g42
 have k42_3 := ku hg42 3 k41_3
 have k42_4 := ku hg42 4 k41_4
 have k42_5 := ku hg42 5 k41_5
 have k42_6 := ku hg42 6 k41_6
 have k42_7 := ku hg42 7 k41_7
 have k42_8 := ku hg42 8 k41_8
 have k42_70 := ku hg42 70 k41_70
 have k42_77 := ku hg42 77 k41_77
 have k42_78 := ku hg42 78 k41_78
 have k42_9 := ku hg42 9 k41_9
 have k42_10 := ku hg42 10 k41_10
 have k42_39 := ku hg42 39 k41_39
 have k42_44 := ku hg42 44 k41_44
 have k42_11 := ku hg42 11 k41_11
 have k42_45 := ku hg42 45 k41_45
 have k42_66 := ku hg42 66 k41_66
 have k42_68 := ku hg42 68 k41_68
 have k42_69 := kt hg42 69 (upd_same _ _ _)
 obtain ⟨W43, hW43⟩ : ∃ W', W' = W42.setRow (s4 2) #[.slice (some ⟨ga42, 0, none⟩) (4) (ca42)] := ⟨_, rfl⟩
 refine tail_skip (o := _) rfl ⟨rfl, rfl⟩ (run_seg hW43 (fr_ev k42_8) (fr_ev k42_69) b42_7 rfl rfl rfl rfl) ?_
 obtain ⟨fB43, nb43, ot43, z43⟩ := seg_facts hW43 fB42 b42_7 (by omega)
 clear hW43
 have b43_0 := ot43 _ _ (by first | assumption | exact Ne.symm (by assumption) | omega) b42_0
 have b43_1 := ot43 _ _ (by first | assumption | exact Ne.symm (by assumption) | omega) b42_1
 have b43_2 := ot43 _ _ (by first | assumption | exact Ne.symm (by assumption) | omega) b42_2
 have b43_3 := ot43 _ _ (by first | assumption | exact Ne.symm (by assumption) | omega) b42_3
 have b43_4 := ot43 _ _ (by first | assumption | exact Ne.symm (by assumption) | omega) b42_4
 have b43_5 := ot43 _ _ (by first | assumption | exact Ne.symm (by assumption) | omega) b42_5
 have b43_6 := ot43 _ _ (by first | assumption | exact Ne.symm (by assumption) | omega) b42_6
 have b43_8 := ot43 _ _ (by first | assumption | exact Ne.symm (by assumption) | omega) b42_8
 have b43_9 := ot43 _ _ (by first | assumption | exact Ne.symm (by assumption) | omega) b42_9
 have b43_10 := ot43 _ _ (by first | assumption | exact Ne.symm (by assumption) | omega) b42_10
 have b43_11 := ot43 _ _ (by first | assumption | exact Ne.symm (by assumption) | omega) b42_11
 have b43_12 := ot43 _ _ (by first | assumption | exact Ne.symm (by assumption) | omega) b42_12
 have b43_13 := ot43 _ _ (by first | assumption | exact Ne.symm (by assumption) | omega) b42_13
 have b43_14 := ot43 _ _ (by first | assumption | exact Ne.symm (by assumption) | omega) b42_14
 have b43_15 := ot43 _ _ (by first | assumption | exact Ne.symm (by assumption) | omega) b42_15
 have q52' := q51'.other ot43 (by first | assumption | exact Ne.symm (by assumption) | omega) z43
 have q53' := on42.other ot43 (ownN_ne on42 b42_7 (by decide)) z43
 refine wpOps_end ?_
 refine hK29 _ _ ?_
 refine region_dk 8 [(70, 0), (71, 1), (72, 2), (73, 3), (74, 4), (75, 5), (76, 6), (77, 7), (78, 8), (9, 9)] [[], [], [], [2], [2, 3], [1, 2, 3, 4], [1, 2, 3, 4, 5], [1, 2, 3, 4, 5, 6], [0, 1, 2, 3, 4, 5, 6, 7], [0, 1, 2, 3, 4, 5, 6, 7, 8]] (rel [is (.slice (some ⟨ga35, 0, none⟩) (3) (ca35)),
   is (.int .i64 3),
   is (.pointer (some ⟨(s1 1), 2, none⟩)),
   is (.int .u8 ((chv 2))),
   is (.int .i64 ((chv 2))),
   is (.int .i64 (3 + (chv 2))),
   is (.int .i64 (((3 + (chv 2)) % 4))),
   row 7 1 #[.int .i64 (((3 + (chv 2)) % 4))] 3])
  ⟨is_k, is_k, is_k, is_k, is_k, is_k, is_k, row_k, trivial⟩
  ⟨fun f s W d i j l m a => opv rfl rfl (by simp [go_sem, a.e 9 ((l 9 9 rfl rfl).trans k42_9)]) rfl,
  fun f s W d i j l m a => opv rfl rfl (by simp [go_sem, a.e 10 k42_10]) rfl,
  fun f s W d i j l m a => opv rfl rfl (by simp [go_sem, a.e 4 k42_4]) rfl,
  fun f s W d i j l m a => opv rfl rfl (by simp [go_sem, a.e 72 (i 2 rfl), cb b43_1 d 2]) rfl,
  fun f s W d i j l m a => by have cv_ := IntWalk.i64_in (chv 2) (by omega); exact opv rfl rfl (by simp [go_sem, a.e 73 (i 3 rfl), cv_]) rfl,
  fun f s W d i j l m a => opv rfl rfl (by simp [go_sem, a.e 71 (i 1 rfl), a.e 74 (i 4 rfl), IntWalk.i64_in (3 + (chv 2)) (by omega)]) rfl,
  fun f s W d i j l m a => by have qu_ : (3 + (chv 2)).tmod 4 = ((3 + (chv 2)) % 4) := Int.tmod_eq_emod_of_nonneg (by omega); have qw_ := IntWalk.i64_in ((3 + (chv 2)) % 4) (by omega); exact opv rfl rfl (by simp [go_sem, a.e 75 (i 5 rfl), qu_, qw_]) rfl,
  fun f s W d i j l m a => opr rfl rfl (by simp [go_sem, a.e 76 (i 6 rfl)]), trivial⟩ ?_
 intro f44 s44 W44 hB44 g44 hg44
 have fB44 := hB44.f fB43
 have z44 := hB44.below.size
 have b44_0 := hB44.b b43_0
 have b44_1 := hB44.b b43_1
 have b44_2 := hB44.b b43_2
 have b44_3 := hB44.b b43_3
 have b44_4 := hB44.b b43_4
 have b44_5 := hB44.b b43_5
 have b44_6 := hB44.b b43_6
 have b44_7 := hB44.b nb43
 have b44_8 := hB44.b b43_8
 have b44_9 := hB44.b b43_9
 have b44_10 := hB44.b b43_10
 have b44_11 := hB44.b b43_11
 have b44_12 := hB44.b b43_12
 have b44_13 := hB44.b b43_13
 have b44_14 := hB44.b b43_14
 have b44_15 := hB44.b b43_15
 have q54' := (q52'.below hB44.below)
 have q55' := (q53'.below hB44.below)
 obtain ⟨r44_7, br44_7⟩ := hB44.is 7
 have lr44_7 := hB44.lr 7 br44_7
 have k44_3 := kt hg44 3 k42_3
 have k44_4 := kt hg44 4 k42_4
 have k44_5 := kt hg44 5 k42_5
 have k44_6 := kt hg44 6 k42_6
 have k44_7 := kt hg44 7 k42_7
 have k44_8 := kt hg44 8 k42_8
 have k44_10 := kt hg44 10 k42_10
 have k44_39 := kt hg44 39 k42_39
 have k44_44 := kt hg44 44 k42_44
 have k44_11 := kt hg44 11 k42_11
 have k44_45 := kt hg44 45 k42_45
 have k44_66 := kt hg44 66 k42_66
 have k44_68 := kt hg44 68 k42_68
 have k44_69 := kt hg44 69 k42_69
 have k44_70 := kt hg44 70 (hB44.is 0)
 have k44_77 := kt hg44 77 r44_7
 obtain ⟨ga45, ca45, W45, ra45, ow45, ot45, z45, gg45, fB45⟩ := growI_tail 25 (xs := [((chv 2) % 4), ((1 + (chv 2)) % 4), ((2 + (chv 2)) % 4)]) (c := ca35) [((chv 2) % 4), ((1 + (chv 2)) % 4), ((2 + (chv 2)) % 4), ((3 + (chv 2)) % 4)] 3 4 rfl rfl rfl fB44 q54' br44_7 rfl
 have lo45 := OwnI.lim ow45
 refine tail_value2 (o := _) rfl rfl rfl (run_appendOp (fr_ev k44_70) (fr_ev k44_77) ra45) ?_
 have b45_0 := ot45 _ _ (by first | assumption | exact Ne.symm (by assumption) | omega) b44_0
 have b45_1 := ot45 _ _ (by first | assumption | exact Ne.symm (by assumption) | omega) b44_1
 have b45_2 := ot45 _ _ (by first | assumption | exact Ne.symm (by assumption) | omega) b44_2
 have b45_3 := ot45 _ _ (by first | assumption | exact Ne.symm (by assumption) | omega) b44_3
 have b45_4 := ot45 _ _ (by first | assumption | exact Ne.symm (by assumption) | omega) b44_4
 have b45_5 := ot45 _ _ (by first | assumption | exact Ne.symm (by assumption) | omega) b44_5
 have b45_6 := ot45 _ _ (by first | assumption | exact Ne.symm (by assumption) | omega) b44_6
 have b45_7 := ot45 _ _ (by first | assumption | exact Ne.symm (by assumption) | omega) b44_7
 have b45_8 := ot45 _ _ (by first | assumption | exact Ne.symm (by assumption) | omega) b44_8
 have b45_9 := ot45 _ _ (by first | assumption | exact Ne.symm (by assumption) | omega) b44_9
 have b45_10 := ot45 _ _ (by first | assumption | exact Ne.symm (by assumption) | omega) b44_10
 have b45_11 := ot45 _ _ (by first | assumption | exact Ne.symm (by assumption) | omega) b44_11
 have b45_12 := ot45 _ _ (by first | assumption | exact Ne.symm (by assumption) | omega) b44_12
 have b45_13 := ot45 _ _ (by first | assumption | exact Ne.symm (by assumption) | omega) b44_13
 have b45_14 := ot45 _ _ (by first | assumption | exact Ne.symm (by assumption) | omega) b44_14
 have b45_15 := ot45 _ _ (by first | assumption | exact Ne.symm (by assumption) | omega) b44_15
 have q56' := OwnN.otherI q55' q54' ot45 z45
 generalize hg45 : upd g44 78 (.slice (some ⟨ga45, 0, none⟩) (4) (ca45)) = g45
 have k45_3 := ku hg45 3 k44_3
 have k45_4 := ku hg45 4 k44_4
 have k45_5 := ku hg45 5 k44_5
 have k45_6 := ku hg45 6 k44_6
 have k45_7 := ku hg45 7 k44_7
 have k45_8 := ku hg45 8 k44_8
 have k45_10 := ku hg45 10 k44_10
 have k45_39 := ku hg45 39 k44_39
 have k45_44 := ku hg45 44 k44_44
 have k45_11 := ku hg45 11 k44_11
 have k45_45 := ku hg45 45 k44_45
 have k45_66 := ku hg45 66 k44_66
 have k45_68 := ku hg45 68 k44_68
 have k45_69 := ku hg45 69 k44_69
 have k45_70 := ku hg45 70 k44_70
 have k45_77 := ku hg45 77 k44_77
 have k45_78 := kt hg45 78 (upd_same _ _ _)
 refine tail_value (o := _) rfl rfl rfl (v := .slice (some ⟨ga45, 0, none⟩) (4) (ca45)) (by simp [go_sem, frv 256 k45_78]) ?_
 generalize hg46 : upd g45 9 (.slice (some ⟨ga45, 0, none⟩) (4) (ca45)) = g46
 have k46_3 := ku hg46 3 k45_3
 have k46_4 := ku hg46 4 k45_4
 have k46_5 := ku hg46 5 k45_5
 have k46_6 := ku hg46 6 k45_6
 have k46_7 := ku hg46 7 k45_7
 have k46_8 := ku hg46 8 k45_8
 have k46_10 := ku hg46 10 k45_10
 have k46_39 := ku hg46 39 k45_39
 have k46_44 := ku hg46 44 k45_44
 have k46_11 := ku hg46 11 k45_11
 have k46_45 := ku hg46 45 k45_45
 have k46_66 := ku hg46 66 k45_66
 have k46_68 := ku hg46 68 k45_68
 have k46_69 := ku hg46 69 k45_69
 have k46_70 := ku hg46 70 k45_70
 have k46_77 := ku hg46 77 k45_77
 have k46_78 := ku hg46 78 k45_78
 have k46_9 := kt hg46 9 (upd_same _ _ _)
 refine wpOps_end ?_
 refine inBlock_normal ?_
 refine hK27 _ _ ?_
 refine region_dk 3 [(40, 0), (41, 1), (10, 2)] [[], [0], [0, 1]] (rel [is (.int .i64 3),
   is (.int .i64 4),
   is (.int .i64 4)])
  ⟨is_k, is_k, is_k, trivial⟩
  ⟨fun f s W d i j l m a => opv rfl rfl (by simp [go_sem, a.e 10 ((l 2 10 rfl rfl).trans k46_10)]) rfl,
  fun f s W d i j l m a => opv rfl rfl (by simp [go_sem, a.e 40 (i 0 rfl), IntWalk.i64_in (4) (by omega)]) rfl,
  fun f s W d i j l m a => opv rfl rfl (by simp [go_sem, a.e 41 (i 1 rfl)]) rfl, trivial⟩ ?_
 intro f47 s47 W47 hB47 g47 hg47
 have fB47 := hB47.f fB45
 have z47 := hB47.below.size
 have b47_0 := hB47.b b45_0
 have b47_1 := hB47.b b45_1
 have b47_2 := hB47.b b45_2
 have b47_3 := hB47.b b45_3
 have b47_4 := hB47.b b45_4
 have b47_5 := hB47.b b45_5
 have b47_6 := hB47.b b45_6
 have b47_7 := hB47.b b45_7
 have b47_8 := hB47.b b45_8
 have b47_9 := hB47.b b45_9
 have b47_10 := hB47.b b45_10
 have b47_11 := hB47.b b45_11
 have b47_12 := hB47.b b45_12
 have b47_13 := hB47.b b45_13
 have b47_14 := hB47.b b45_14
 have b47_15 := hB47.b b45_15
 have q57' := (q56'.below hB47.below)
 have q58' := (ow45.below hB47.below)
 refine wpOps_end ?_
 have k47_3 := kt hg47 3 k46_3
 have k47_4 := kt hg47 4 k46_4
 have k47_5 := kt hg47 5 k46_5
 have k47_6 := kt hg47 6 k46_6
 have k47_7 := kt hg47 7 k46_7
 have k47_8 := kt hg47 8 k46_8
 have k47_39 := kt hg47 39 k46_39
 have k47_44 := kt hg47 44 k46_44
 have k47_11 := kt hg47 11 k46_11
 have k47_45 := kt hg47 45 k46_45
 have k47_66 := kt hg47 66 k46_66
 have k47_68 := kt hg47 68 k46_68
 have k47_69 := kt hg47 69 k46_69
 have k47_70 := kt hg47 70 k46_70
 have k47_77 := kt hg47 77 k46_77
 have k47_78 := kt hg47 78 k46_78
 have k47_9 := kt hg47 9 k46_9
 have k47_10 := kt hg47 10 (hB47.is 2)
 refine then_normal ?_
 rw [rounds_succ]
 refine wp_seq_k fun K30 hK30 => ?_
 refine wp_seq_k fun K31 hK31 => ?_
 refine region_dk 2 [(38, 0), (39, 1)] [[], [0]] (rel [is (.int .i64 4),
   is (.bool false)])
  ⟨is_k, is_k, trivial⟩
  ⟨fun f s W d i j l m a => opv rfl rfl (by simp [go_sem, a.e 10 k47_10]) rfl,
  fun f s W d i j l m a => opv rfl rfl (by simp [go_sem, a.e 38 (i 0 rfl)]) rfl, trivial⟩ ?_
 intro f48 s48 W48 hB48 g48 hg48
 have fB48 := hB48.f fB47
 have z48 := hB48.below.size
 have b48_0 := hB48.b b47_0
 have b48_1 := hB48.b b47_1
 have b48_2 := hB48.b b47_2
 have b48_3 := hB48.b b47_3
 have b48_4 := hB48.b b47_4
 have b48_5 := hB48.b b47_5
 have b48_6 := hB48.b b47_6
 have b48_7 := hB48.b b47_7
 have b48_8 := hB48.b b47_8
 have b48_9 := hB48.b b47_9
 have b48_10 := hB48.b b47_10
 have b48_11 := hB48.b b47_11
 have b48_12 := hB48.b b47_12
 have b48_13 := hB48.b b47_13
 have b48_14 := hB48.b b47_14
 have b48_15 := hB48.b b47_15
 have q59' := (q57'.below hB48.below)
 have q60' := (q58'.below hB48.below)
 refine hK31 _ _ ?_
 have k48_3 := kt hg48 3 k47_3
 have k48_4 := kt hg48 4 k47_4
 have k48_5 := kt hg48 5 k47_5
 have k48_6 := kt hg48 6 k47_6
 have k48_7 := kt hg48 7 k47_7
 have k48_8 := kt hg48 8 k47_8
 have k48_44 := kt hg48 44 k47_44
 have k48_11 := kt hg48 11 k47_11
 have k48_45 := kt hg48 45 k47_45
 have k48_66 := kt hg48 66 k47_66
 have k48_68 := kt hg48 68 k47_68
 have k48_69 := kt hg48 69 k47_69
 have k48_70 := kt hg48 70 k47_70
 have k48_77 := kt hg48 77 k47_77
 have k48_78 := kt hg48 78 k47_78
 have k48_9 := kt hg48 9 k47_9
 have k48_10 := kt hg48 10 k47_10
 have k48_39 := kt hg48 39 (hB48.is 1)
 refine wp_cond_false ((fr_eval rfl).trans k48_39) ?_
 refine wp_exit ?_
 refine then_exit ?_
 refine then_exit ?_
 refine inBlock_at ?_
 refine hK4 _ _ ?_
 exact damp_main_c9 jv chv sv sx mo w gj gg gs hsx hsl hmo hml g48 W48 (s1 0) (s1 1) (s1 2) (s2 10) (s4 2) (s39 3) ga32 ca32 (s41 21) (s41 23) ga42 ca42 ga35 ca35 (s44 7) ga45 ca45 (s11 21) (s21 21) (s31 21) (s2 3) (s2 7) (s2 8) (s9 3) (s19 3) (s29 3) k48_4 k48_5 k48_6 k48_7 k48_8 k48_9 fB48 b48_0 b48_1 b48_2 b48_3 b48_4 b48_5 b48_6 b48_7 b48_8 b48_9 b48_10 b48_11 b48_12 b48_13 b48_14 b48_15 q59' q60' (by omega) (by omega) (by omega) (by omega) (by omega) (by omega) (by omega) (by omega) (by omega) (by omega) (by omega) (by omega) (by omega) (by omega) (by omega) (by omega) (by first | assumption | exact Ne.symm (by assumption) | omega) (by first | assumption | exact Ne.symm (by assumption) | omega) (by first | assumption | exact Ne.symm (by assumption) | omega) (by first | assumption | exact Ne.symm (by assumption) | omega) (by first | assumption | exact Ne.symm (by assumption) | omega) (by first | assumption | exact Ne.symm (by assumption) | omega) (by first | assumption | exact Ne.symm (by assumption) | omega) (by first | assumption | exact Ne.symm (by assumption) | omega) (by first | assumption | exact Ne.symm (by assumption) | omega) (by first | assumption | exact Ne.symm (by assumption) | omega) (by first | assumption | exact Ne.symm (by assumption) | omega) (by first | assumption | exact Ne.symm (by assumption) | omega) (by first | assumption | exact Ne.symm (by assumption) | omega) (by first | assumption | exact Ne.symm (by assumption) | omega) (by first | assumption | exact Ne.symm (by assumption) | omega) (by first | assumption | exact Ne.symm (by assumption) | omega) (by first | assumption | exact Ne.symm (by assumption) | omega) (by first | assumption | exact Ne.symm (by assumption) | omega) (by first | assumption | exact Ne.symm (by assumption) | omega) (by first | assumption | exact Ne.symm (by assumption) | omega) (by first | assumption | exact Ne.symm (by assumption) | omega) (by first | assumption | exact Ne.symm (by assumption) | omega) (by first | assumption | exact Ne.symm (by assumption) | omega) (by first | assumption | exact Ne.symm (by assumption) | omega) (by first | assumption | exact Ne.symm (by assumption) | omega) (by first | assumption | exact Ne.symm (by assumption) | omega) (by first | assumption | exact Ne.symm (by assumption) | omega) (by first | assumption | exact Ne.symm (by assumption) | omega) (by first | assumption | exact Ne.symm (by assumption) | omega) (by first | assumption | exact Ne.symm (by assumption) | omega) (by first | assumption | exact Ne.symm (by assumption) | omega) (by first | assumption | exact Ne.symm (by assumption) | omega) (by first | assumption | exact Ne.symm (by assumption) | omega) (by first | assumption | exact Ne.symm (by assumption) | omega) (by first | assumption | exact Ne.symm (by assumption) | omega) (by first | assumption | exact Ne.symm (by assumption) | omega) (by first | assumption | exact Ne.symm (by assumption) | omega) (by first | assumption | exact Ne.symm (by assumption) | omega) (by first | assumption | exact Ne.symm (by assumption) | omega) (by first | assumption | exact Ne.symm (by assumption) | omega) (by first | assumption | exact Ne.symm (by assumption) | omega) (by first | assumption | exact Ne.symm (by assumption) | omega) (by first | assumption | exact Ne.symm (by assumption) | omega) (by first | assumption | exact Ne.symm (by assumption) | omega) (by first | assumption | exact Ne.symm (by assumption) | omega) (by first | assumption | exact Ne.symm (by assumption) | omega) (by first | assumption | exact Ne.symm (by assumption) | omega) (by first | assumption | exact Ne.symm (by assumption) | omega) (by first | assumption | exact Ne.symm (by assumption) | omega) (by first | assumption | exact Ne.symm (by assumption) | omega) (by first | assumption | exact Ne.symm (by assumption) | omega) (by first | assumption | exact Ne.symm (by assumption) | omega) (by first | assumption | exact Ne.symm (by assumption) | omega) (by first | assumption | exact Ne.symm (by assumption) | omega) (by first | assumption | exact Ne.symm (by assumption) | omega) (by first | assumption | exact Ne.symm (by assumption) | omega) (by first | assumption | exact Ne.symm (by assumption) | omega) (by first | assumption | exact Ne.symm (by assumption) | omega) (by first | assumption | exact Ne.symm (by assumption) | omega) (by first | assumption | exact Ne.symm (by assumption) | omega) (by first | assumption | exact Ne.symm (by assumption) | omega) (by first | assumption | exact Ne.symm (by assumption) | omega) (by first | assumption | exact Ne.symm (by assumption) | omega) (by first | assumption | exact Ne.symm (by assumption) | omega) (by first | assumption | exact Ne.symm (by assumption) | omega) (by first | assumption | exact Ne.symm (by assumption) | omega) (by first | assumption | exact Ne.symm (by assumption) | omega) (by first | assumption | exact Ne.symm (by assumption) | omega) (by first | assumption | exact Ne.symm (by assumption) | omega) (by first | assumption | exact Ne.symm (by assumption) | omega) (by first | assumption | exact Ne.symm (by assumption) | omega) (by first | assumption | exact Ne.symm (by assumption) | omega) (by first | assumption | exact Ne.symm (by assumption) | omega) (by first | assumption | exact Ne.symm (by assumption) | omega) (by first | assumption | exact Ne.symm (by assumption) | omega) (by first | assumption | exact Ne.symm (by assumption) | omega) (by first | assumption | exact Ne.symm (by assumption) | omega) (by first | assumption | exact Ne.symm (by assumption) | omega) (by first | assumption | exact Ne.symm (by assumption) | omega) (by first | assumption | exact Ne.symm (by assumption) | omega) (by first | assumption | exact Ne.symm (by assumption) | omega) (by first | assumption | exact Ne.symm (by assumption) | omega) (by first | assumption | exact Ne.symm (by assumption) | omega) (by first | assumption | exact Ne.symm (by assumption) | omega) (by first | assumption | exact Ne.symm (by assumption) | omega) (by first | assumption | exact Ne.symm (by assumption) | omega) (by first | assumption | exact Ne.symm (by assumption) | omega) (by first | assumption | exact Ne.symm (by assumption) | omega) (by first | assumption | exact Ne.symm (by assumption) | omega) (by first | assumption | exact Ne.symm (by assumption) | omega) (by first | assumption | exact Ne.symm (by assumption) | omega) (by first | assumption | exact Ne.symm (by assumption) | omega) (by first | assumption | exact Ne.symm (by assumption) | omega) (by first | assumption | exact Ne.symm (by assumption) | omega) (by first | assumption | exact Ne.symm (by assumption) | omega) (by first | assumption | exact Ne.symm (by assumption) | omega) (by first | assumption | exact Ne.symm (by assumption) | omega) (by first | assumption | exact Ne.symm (by assumption) | omega) (by first | assumption | exact Ne.symm (by assumption) | omega) (by first | assumption | exact Ne.symm (by assumption) | omega) (by first | assumption | exact Ne.symm (by assumption) | omega) (by first | assumption | exact Ne.symm (by assumption) | omega) (by first | assumption | exact Ne.symm (by assumption) | omega) (by first | assumption | exact Ne.symm (by assumption) | omega) (by first | assumption | exact Ne.symm (by assumption) | omega) (by first | assumption | exact Ne.symm (by assumption) | omega) (by first | assumption | exact Ne.symm (by assumption) | omega) (by first | assumption | exact Ne.symm (by assumption) | omega) (by first | assumption | exact Ne.symm (by assumption) | omega) (by first | assumption | exact Ne.symm (by assumption) | omega) (by first | assumption | exact Ne.symm (by assumption) | omega) (by first | assumption | exact Ne.symm (by assumption) | omega) (by first | assumption | exact Ne.symm (by assumption) | omega) (by first | assumption | exact Ne.symm (by assumption) | omega) (by first | assumption | exact Ne.symm (by assumption) | omega) (by first | assumption | exact Ne.symm (by assumption) | omega) (by first | assumption | exact Ne.symm (by assumption) | omega) (by first | assumption | exact Ne.symm (by assumption) | omega) (by first | assumption | exact Ne.symm (by assumption) | omega) (by first | assumption | exact Ne.symm (by assumption) | omega) (by first | assumption | exact Ne.symm (by assumption) | omega) (by first | assumption | exact Ne.symm (by assumption) | omega) (by first | assumption | exact Ne.symm (by assumption) | omega) (by first | assumption | exact Ne.symm (by assumption) | omega) (by first | assumption | exact Ne.symm (by assumption) | omega) (by first | assumption | exact Ne.symm (by assumption) | omega) (by first | assumption | exact Ne.symm (by assumption) | omega) (by first | assumption | exact Ne.symm (by assumption) | omega) (by first | assumption | exact Ne.symm (by assumption) | omega) (by first | assumption | exact Ne.symm (by assumption) | omega) (by first | assumption | exact Ne.symm (by assumption) | omega) (by first | assumption | exact Ne.symm (by assumption) | omega) (by first | assumption | exact Ne.symm (by assumption) | omega) (by first | assumption | exact Ne.symm (by assumption) | omega) (by first | assumption | exact Ne.symm (by assumption) | omega) (by first | assumption | exact Ne.symm (by assumption) | omega)
end Go.Proofs.Ytcgccflcjejlhaa
