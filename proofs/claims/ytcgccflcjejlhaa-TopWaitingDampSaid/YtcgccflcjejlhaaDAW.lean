/- Part of the proof: what the claim leans on. -/
import Derived.Test.YtcgccflcjejlhaaDAV
set_option linter.unusedSimpArgs false
set_option linter.unusedVariables false
namespace Go.Proofs.Ytcgccflcjejlhaa
open Go.RowKit
set_option maxRecDepth 100000 in
set_option maxHeartbeats 40000000 in
theorem damp_main_c12 (jv chv sv : Nat → Int) (sx : Nat → Nat → Int) (mo : Nat → Nat → Int × Int) (w : World) (gj : ∀ k, 0 ≤ jv k ∧ jv k ≤ 255) (gg : ∀ k, 0 ≤ chv k ∧ chv k ≤ 255) (gs : ∀ k, 0 ≤ sv k ∧ sv k ≤ 255) (hsx : ∀ n k : Nat, elT ((runF (freeK n (stB sv)) (chK (chB chv)) 3 (jsB jv) (odB (chv 2)) 4).st k) 2 = sx n k) (hsl : ∀ k, k < 4 → 0 ≤ sx 0 k ∧ sx 0 k ≤ sx 1 k ∧ sx 1 k ≤ 29745) (hmo : ∀ n k : Nat, moF (1 + chv 3 % 5) 3 50 60 (dsW ((sx n k + jv (k * 5 + 4)) / 60)) 1 = mo n k) (hml : ∀ k, k < 4 → (mo 0 k).1 ≤ (mo 1 k).1 ∧ (mo 0 k).2 ≤ (mo 1 k).2 ∧ 50 ≤ (mo 0 k).1) (gc_ : Nat → Value) (Wc_ : World) (bk1 : Nat) (bk3 : Nat) (bk4 : Nat) (ga45 : Nat) (ca45 : Nat) (bk18 : Nat) (bk9 : Nat) (bk10 : Nat) (bk11 : Nat) (bk6 : Nat) (ga42 : Nat) (bk12 : Nat) (bk13 : Nat) (bk14 : Nat) (ca42 : Nat) (bk19 : Nat) (bk0 : Nat) (bk2 : Nat) (bk15 : Nat) (bk16 : Nat) (bk17 : Nat) (bk5 : Nat)  (k_4 : gc_ 4 = .pointer (some ⟨bk1, 0, none⟩)) (k_6 : gc_ 6 = .bool false) (k_7 : gc_ 7 = .pointer (some ⟨bk3, 0, none⟩)) (k_8 : gc_ 8 = .pointer (some ⟨bk4, 0, none⟩)) (k_9 : gc_ 9 = .slice (some ⟨ga45, 0, none⟩) (4) (ca45)) (k_12 : gc_ 12 = .pointer (some ⟨bk18, 0, none⟩)) (k_13 : gc_ 13 = .func (.func 5) #[] #[.pointer (some ⟨bk4, 0, none⟩)]) (fB_ : Below w.heap.size w Wc_) (bl_0 : Wc_.heap[bk0]? = some (.cells #[.int .u8 ((jv 0)), .int .u8 ((jv 1)), .int .u8 ((jv 2)), .int .u8 ((jv 3)), .int .u8 ((jv 4)), .int .u8 ((jv 5)), .int .u8 ((jv 6)), .int .u8 ((jv 7)), .int .u8 ((jv 8)), .int .u8 ((jv 9)), .int .u8 ((jv 10)), .int .u8 ((jv 11)), .int .u8 ((jv 12)), .int .u8 ((jv 13)), .int .u8 ((jv 14)), .int .u8 ((jv 15)), .int .u8 ((jv 16)), .int .u8 ((jv 17)), .int .u8 ((jv 18)), .int .u8 ((jv 19))] 23 (0, 0))) (bl_1 : Wc_.heap[bk1]? = some (.cells #[.int .u8 ((chv 0)), .int .u8 ((chv 1)), .int .u8 ((chv 2)), .int .u8 ((chv 3))] 24 (0, 0))) (bl_2 : Wc_.heap[bk2]? = some (.cells #[.int .u8 ((sv 0)), .int .u8 ((sv 1)), .int .u8 ((sv 2)), .int .u8 ((sv 3))] 24 (0, 0))) (bl_3 : Wc_.heap[bk12]? = some (.cells #[.int .i64 0, .int .i64 ((chv 0))] 3 (0, 0))) (bl_4 : Wc_.heap[bk13]? = some (.cells #[.int .i64 ((chv 1)), .int .i64 0] 3 (0, 0))) (bl_5 : Wc_.heap[bk14]? = some (.cells #[.slice (some ⟨bk12, 0, none⟩) (2) (2), .slice (some ⟨bk13, 0, none⟩) (2) (2)] 25 (0, 0))) (bl_6 : Wc_.heap[bk3]? = some (.cells #[.int .i64 3, .slice (some ⟨bk14, 0, none⟩) (2) (2), .slice (none) (0) (0)] 29 (0, 0))) (bl_7 : Wc_.heap[bk4]? = some (.cells #[.slice (some ⟨ga42, 0, none⟩) (4) (ca42)] 30 (0, 0))) (bl_8 : Wc_.heap[bk15]? = some (.cells #[.int .u8 ((jv 0)), .int .u8 ((jv 1)), .int .u8 ((jv 2)), .int .u8 ((jv 3)), .int .u8 ((jv 4))] 22 (0, 0))) (bl_9 : Wc_.heap[bk16]? = some (.cells #[.int .u8 ((jv 5)), .int .u8 ((jv 6)), .int .u8 ((jv 7)), .int .u8 ((jv 8)), .int .u8 ((jv 9))] 22 (0, 0))) (bl_10 : Wc_.heap[bk17]? = some (.cells #[.int .u8 ((jv 10)), .int .u8 ((jv 11)), .int .u8 ((jv 12)), .int .u8 ((jv 13)), .int .u8 ((jv 14))] 22 (0, 0))) (bl_11 : Wc_.heap[bk5]? = some (.cells #[.int .u8 ((jv 15)), .int .u8 ((jv 16)), .int .u8 ((jv 17)), .int .u8 ((jv 18)), .int .u8 ((jv 19))] 22 (0, 0))) (bl_12 : Wc_.heap[bk18]? = some (.cells #[.int .i64 3, .slice (some ⟨bk14, 0, none⟩) (2) (2), .slice (some ⟨bk19, 0, none⟩) (1) (1)] 29 (0, 0))) (bl_13 : Wc_.heap[bk19]? = some (.cells #[.int .i64 (((sv 0) % 3)), .int .i64 (3 * (sv 1)), .int .i64 (((3 * (sv 1)) + 1) + (sv 2))] 34 (0, 0))) (ft_0 : JbR Wc_ ga42 0 4 (jsB jv) (adB bk9 bk10 bk11 bk6) (fun _ => 3)) (ft_1 : Ii Wc_ (some ⟨ga45, 0, none⟩) 4 ca45 (odL (chv 2))) (lw_bk0 : w.heap.size ≤ bk0) (lw_bk1 : w.heap.size ≤ bk1) (lw_bk2 : w.heap.size ≤ bk2) (lw_bk12 : w.heap.size ≤ bk12) (lw_bk13 : w.heap.size ≤ bk13) (lw_bk14 : w.heap.size ≤ bk14) (lw_bk3 : w.heap.size ≤ bk3) (lw_bk4 : w.heap.size ≤ bk4) (lw_bk15 : w.heap.size ≤ bk15) (lw_bk16 : w.heap.size ≤ bk16) (lw_bk17 : w.heap.size ≤ bk17) (lw_bk5 : w.heap.size ≤ bk5) (lw_bk18 : w.heap.size ≤ bk18) (lw_bk19 : w.heap.size ≤ bk19) (ne_0_1 : bk0 ≠ bk1) (ne_0_2 : bk0 ≠ bk2) (ne_1_2 : bk1 ≠ bk2) (ne_0_3 : bk0 ≠ bk12) (ne_1_3 : bk1 ≠ bk12) (ne_2_3 : bk2 ≠ bk12) (ne_0_4 : bk0 ≠ bk13) (ne_1_4 : bk1 ≠ bk13) (ne_2_4 : bk2 ≠ bk13) (ne_3_4 : bk12 ≠ bk13) (ne_0_5 : bk0 ≠ bk14) (ne_1_5 : bk1 ≠ bk14) (ne_2_5 : bk2 ≠ bk14) (ne_3_5 : bk12 ≠ bk14) (ne_4_5 : bk13 ≠ bk14) (ne_0_6 : bk0 ≠ bk3) (ne_1_6 : bk1 ≠ bk3) (ne_2_6 : bk2 ≠ bk3) (ne_3_6 : bk12 ≠ bk3) (ne_4_6 : bk13 ≠ bk3) (ne_5_6 : bk14 ≠ bk3) (ne_0_7 : bk0 ≠ bk4) (ne_1_7 : bk1 ≠ bk4) (ne_2_7 : bk2 ≠ bk4) (ne_3_7 : bk12 ≠ bk4) (ne_4_7 : bk13 ≠ bk4) (ne_5_7 : bk14 ≠ bk4) (ne_6_7 : bk3 ≠ bk4) (ne_0_8 : bk0 ≠ bk15) (ne_1_8 : bk1 ≠ bk15) (ne_2_8 : bk2 ≠ bk15) (ne_3_8 : bk12 ≠ bk15) (ne_4_8 : bk13 ≠ bk15) (ne_5_8 : bk14 ≠ bk15) (ne_6_8 : bk3 ≠ bk15) (ne_7_8 : bk4 ≠ bk15) (ne_0_9 : bk0 ≠ bk16) (ne_1_9 : bk1 ≠ bk16) (ne_2_9 : bk2 ≠ bk16) (ne_3_9 : bk12 ≠ bk16) (ne_4_9 : bk13 ≠ bk16) (ne_5_9 : bk14 ≠ bk16) (ne_6_9 : bk3 ≠ bk16) (ne_7_9 : bk4 ≠ bk16) (ne_8_9 : bk15 ≠ bk16) (ne_0_10 : bk0 ≠ bk17) (ne_1_10 : bk1 ≠ bk17) (ne_2_10 : bk2 ≠ bk17) (ne_3_10 : bk12 ≠ bk17) (ne_4_10 : bk13 ≠ bk17) (ne_5_10 : bk14 ≠ bk17) (ne_6_10 : bk3 ≠ bk17) (ne_7_10 : bk4 ≠ bk17) (ne_8_10 : bk15 ≠ bk17) (ne_9_10 : bk16 ≠ bk17) (ne_0_11 : bk0 ≠ bk5) (ne_1_11 : bk1 ≠ bk5) (ne_2_11 : bk2 ≠ bk5) (ne_3_11 : bk12 ≠ bk5) (ne_4_11 : bk13 ≠ bk5) (ne_5_11 : bk14 ≠ bk5) (ne_6_11 : bk3 ≠ bk5) (ne_7_11 : bk4 ≠ bk5) (ne_8_11 : bk15 ≠ bk5) (ne_9_11 : bk16 ≠ bk5) (ne_10_11 : bk17 ≠ bk5) (ne_0_12 : bk0 ≠ bk18) (ne_1_12 : bk1 ≠ bk18) (ne_2_12 : bk2 ≠ bk18) (ne_3_12 : bk12 ≠ bk18) (ne_4_12 : bk13 ≠ bk18) (ne_5_12 : bk14 ≠ bk18) (ne_6_12 : bk3 ≠ bk18) (ne_7_12 : bk4 ≠ bk18) (ne_8_12 : bk15 ≠ bk18) (ne_9_12 : bk16 ≠ bk18) (ne_10_12 : bk17 ≠ bk18) (ne_11_12 : bk5 ≠ bk18) (ne_0_13 : bk0 ≠ bk19) (ne_1_13 : bk1 ≠ bk19) (ne_2_13 : bk2 ≠ bk19) (ne_3_13 : bk12 ≠ bk19) (ne_4_13 : bk13 ≠ bk19) (ne_5_13 : bk14 ≠ bk19) (ne_6_13 : bk3 ≠ bk19) (ne_7_13 : bk4 ≠ bk19) (ne_8_13 : bk15 ≠ bk19) (ne_9_13 : bk16 ≠ bk19) (ne_10_13 : bk17 ≠ bk19) (ne_11_13 : bk5 ≠ bk19) (ne_12_13 : bk18 ≠ bk19) :
  (tailC 7 (bodyC Try.f3)).wp Try.prog (bodyPost Try.prog Try.f3 (fun e w' => e = .returned (.bool true) ∧ Below w.heap.size w w')) (fr 256 gc_) Wc_ := by
 have j0_ := gj 0
 have j1_ := gj 1
 have j2_ := gj 2
 have j3_ := gj 3
 have j4_ := gj 4
 have j5_ := gj 5
 have j6_ := gj 6
 have j7_ := gj 7
 have j8_ := gj 8
 have j9_ := gj 9
 have j10_ := gj 10
 have j11_ := gj 11
 have j12_ := gj 12
 have j13_ := gj 13
 have j14_ := gj 14
 have j15_ := gj 15
 have j16_ := gj 16
 have j17_ := gj 17
 have j18_ := gj 18
 have j19_ := gj 19
 have v0_ := gg 0
 have v1_ := gg 1
 have v2_ := gg 2
 have v3_ := gg 3
 have s0_ := gs 0
 have s1_ := gs 1
 have s2_ := gs 2
 have lt_bk0 := lt_of_blk bl_0
 have lt_bk1 := lt_of_blk bl_1
 have lt_bk2 := lt_of_blk bl_2
 have lt_bk12 := lt_of_blk bl_3
 have lt_bk13 := lt_of_blk bl_4
 have lt_bk14 := lt_of_blk bl_5
 have lt_bk3 := lt_of_blk bl_6
 have lt_bk4 := lt_of_blk bl_7
 have lt_bk15 := lt_of_blk bl_8
 have lt_bk16 := lt_of_blk bl_9
 have lt_bk17 := lt_of_blk bl_10
 have lt_bk5 := lt_of_blk bl_11
 have lt_bk18 := lt_of_blk bl_12
 have lt_bk19 := lt_of_blk bl_13
 refine wp_seq_k fun K36 hK36 => ?_
 refine region_dk 11 [(102, 0), (103, 1), (104, 2), (105, 3), (106, 4), (107, 5), (101, 6), (108, 7), (109, 8), (14, 9), (15, 10)] [[], [], [1], [], [1, 2, 3], [0, 1, 2, 3, 4], [0, 1, 2, 3, 4, 5], [0, 1, 2, 3, 4, 5, 6], [0, 1, 2, 3, 4, 5, 6], [0, 1, 2, 3, 4, 5, 6, 7], [0, 1, 2, 3, 4, 5, 6, 7, 8, 9]] (rel [is (.agg #[.int .i64 3, .slice (some ⟨bk14, 0, none⟩) (2) (2), .slice (none) (0) (0)]),
   is (.func (.func 5) #[] #[.pointer (some ⟨bk4, 0, none⟩)]),
   ab fun v W => IsJobs 4 (jsB jv) v W,
   is (.slice (some ⟨ga45, 0, none⟩) (4) (ca45)),
   ab fun v W => IsOd (odL (chv 2)) v W,
   ab fun v W => ∃ x0, v = .tuple #[x0, .int .i64 0] ∧ IsSt 3 4 (runF (freeK 0 (stB sv)) (chK (chB chv)) 3 (jsB jv) (odB (chv 2)) 4).st x0 W,
   ab fun v W => ∃ x0, v = .tuple #[x0, .int .i64 0] ∧ IsSt 3 4 (runF (freeK 0 (stB sv)) (chK (chB chv)) 3 (jsB jv) (odB (chv 2)) 4).st x0 W,
   ab fun v W => IsSt 3 4 (runF (freeK 0 (stB sv)) (chK (chB chv)) 3 (jsB jv) (odB (chv 2)) 4).st v W,
   is (.int .i64 0),
   ab fun v W => IsSt 3 4 (runF (freeK 0 (stB sv)) (chK (chB chv)) 3 (jsB jv) (odB (chv 2)) 4).st v W,
   is (.int .i64 0)])
  ⟨is_k, is_k, ab_k fun v W W' hb h => (IsJobs.below h hb), is_k, ab_k fun v W W' hb h => (IsOd.below h hb), ab_k fun v W W' hb ⟨x0, e, h0⟩ => ⟨x0, e, (IsSt.below h0 hb)⟩, ab_k fun v W W' hb ⟨x0, e, h0⟩ => ⟨x0, e, (IsSt.below h0 hb)⟩, ab_k fun v W W' hb h => (IsSt.below h hb), is_k, ab_k fun v W W' hb h => (IsSt.below h hb), is_k, trivial⟩
  ⟨fun f s W g i l m o a => opv rfl rfl (by simp [go_sem, a.e 7 k_7, cb bl_6 g 0, cb bl_6 g 1, cb bl_6 g 2]) rfl,
  fun f s W g i l m o a => opv rfl rfl (by simp [go_sem, a.e 13 k_13]) rfl,
  fun f s W g i l m o a => opDo_call (args := #[.pointer (some ⟨bk4, 0, none⟩)]) rfl rfl (by simp [go_sem, a.e 103 (i 1 rfl)]) (jobs_own bk4 ga42 4 ca42 (jsB jv) (adB bk9 bk10 bk11 bk6) (fun _ => 3) W (cb bl_7 g 0) (lt_of_blk (blk_below bl_7 g)) ((JbR.below ft_0 g)) (by decide) (by decide) (fun j _ => by rw [jsB_ms]; decide)) ((fun e W' h => by obtain ⟨v, e1, h1, h2⟩ := h; exact ⟨_, e1, h2, h1⟩)),
  fun f s W g i l m o a => opv rfl rfl (by simp [go_sem, a.e 9 k_9]) rfl,
  fun f s W g i l m o a => opDo_call rfl rfl (by simp [go_sem, a.e 105 (i 3 rfl)]) (arm_ints_own (some ⟨ga45, 0, none⟩) (ca45) 4 (odL (chv 2)) W ((Ii.below ft_1 g (Nat.le_refl _))) (by decide) (by decide)) ((fun e W' h => by obtain ⟨v, e1, ⟨g_, c_, e2, h1⟩, h2⟩ := h; exact ⟨v, e1, h2, ⟨g_, c_, e2, h1.ii⟩⟩)),
  fun f s W g i l m o a => by obtain ⟨b71', c72', ad73', cp74', d2, q75'⟩ := (i 2 rfl); obtain ⟨g76', c77', d4, q78'⟩ := (i 4 rfl); exact opDo_call (args := #[.agg #[.int .i64 3, .slice (some ⟨bk14, 0, none⟩) (2) (2), .slice (none) (0) (0)], .slice (some ⟨b71', 0, none⟩) (4) (c72'), .slice (some ⟨g76', 0, none⟩) (4) (c77')]) rfl rfl (by simp [go_sem, a.e 102 (i 0 rfl), a.e 104 d2, a.e 106 d4]) (starts_4 3 0 (chB chv) (stB sv) (jsB jv) bk14 0 2 0 0 0 b71' 0 c72' none (chBa bk12 bk13) (fun _ => 2) ad73' cp74' (odB (chv 2)) (some ⟨g76', 0, none⟩) 4 c77' (odL (chv 2)) W (flB gj gg gs (by decide)) ⟨chB_R (blk_below bl_5 g) (blk_below bl_3 g) (blk_below bl_4 g), (fun h => absurd h (by decide)), q75'⟩ q78' rfl (odB_ok _).1 (odB_ok _).2.1 (odB_ok _).2.2) ((fun e W' h => by obtain ⟨v, e1, h1, h2⟩ := h; exact ⟨_, e1, h2, ⟨v, rfl, h1⟩⟩)),
  fun f s W g i l m o a => opv (v := (f 5)) rfl rfl (by simp [go_sem, (a.at' 107 rfl : o.tmps[107]?.getD undef = f 5)] <;> rfl) (i 5 rfl),
  fun f s W g i l m o a => by obtain ⟨x6_0, d6, p6_0⟩ := (i 6 rfl); exact opv (v := x6_0) rfl rfl (by simp [go_sem, a.e 101 d6]) p6_0,
  fun f s W g i l m o a => by obtain ⟨x6_0, d6, p6_0⟩ := (i 6 rfl); exact opv rfl rfl (by simp [go_sem, a.e 101 d6]) rfl,
  fun f s W g i l m o a => opv (v := (f 7)) rfl rfl (by simp [go_sem, (a.at' 108 rfl : o.tmps[108]?.getD undef = f 7)] <;> rfl) (i 7 rfl),
  fun f s W g i l m o a => opv rfl rfl (by simp [go_sem, a.e 109 (i 8 rfl)]) rfl, trivial⟩ ?_
 intro f54 s54 W54 hB54 g54 hg54
 have fB54 := hB54.f fB_
 have z54 := hB54.below.size
 have b54_0 := hB54.b bl_0
 have b54_1 := hB54.b bl_1
 have b54_2 := hB54.b bl_2
 have b54_3 := hB54.b bl_3
 have b54_4 := hB54.b bl_4
 have b54_5 := hB54.b bl_5
 have b54_6 := hB54.b bl_6
 have b54_7 := hB54.b bl_7
 have b54_8 := hB54.b bl_8
 have b54_9 := hB54.b bl_9
 have b54_10 := hB54.b bl_10
 have b54_11 := hB54.b bl_11
 have b54_12 := hB54.b bl_12
 have b54_13 := hB54.b bl_13
 have q83' := (JbR.below ft_0 hB54.below)
 have q84' := (Ii.below ft_1 hB54.below (Nat.le_refl _))
 obtain ⟨b85', sa86', sc87', r54_9, q88'⟩ := hB54.is 9
 refine hK36 _ _ ?_
 have k54_4 := kt hg54 4 k_4
 have k54_6 := kt hg54 6 k_6
 have k54_8 := kt hg54 8 k_8
 have k54_9 := kt hg54 9 k_9
 have k54_12 := kt hg54 12 k_12
 have k54_13 := kt hg54 13 k_13
 have k54_14 := kt hg54 14 r54_9
 have k54_15 := kt hg54 15 (hB54.is 10)
 refine wp_seq_k fun K37 hK37 => ?_
 refine region_dk 11 [(111, 0), (112, 1), (113, 2), (114, 3), (115, 4), (116, 5), (110, 6), (117, 7), (118, 8), (16, 9), (17, 10)] [[], [], [1], [], [1, 2, 3], [0, 1, 2, 3, 4], [0, 1, 2, 3, 4, 5], [0, 1, 2, 3, 4, 5, 6], [0, 1, 2, 3, 4, 5, 6], [0, 1, 2, 3, 4, 5, 6, 7], [0, 1, 2, 3, 4, 5, 6, 7, 8, 9]] (rel [is (.agg #[.int .i64 3, .slice (some ⟨bk14, 0, none⟩) (2) (2), .slice (some ⟨bk19, 0, none⟩) (1) (1)]),
   is (.func (.func 5) #[] #[.pointer (some ⟨bk4, 0, none⟩)]),
   ab fun v W => IsJobs 4 (jsB jv) v W,
   is (.slice (some ⟨ga45, 0, none⟩) (4) (ca45)),
   ab fun v W => IsOd (odL (chv 2)) v W,
   ab fun v W => ∃ x0, v = .tuple #[x0, .int .i64 0] ∧ IsSt 3 4 (runF (freeK 1 (stB sv)) (chK (chB chv)) 3 (jsB jv) (odB (chv 2)) 4).st x0 W,
   ab fun v W => ∃ x0, v = .tuple #[x0, .int .i64 0] ∧ IsSt 3 4 (runF (freeK 1 (stB sv)) (chK (chB chv)) 3 (jsB jv) (odB (chv 2)) 4).st x0 W,
   ab fun v W => IsSt 3 4 (runF (freeK 1 (stB sv)) (chK (chB chv)) 3 (jsB jv) (odB (chv 2)) 4).st v W,
   is (.int .i64 0),
   ab fun v W => IsSt 3 4 (runF (freeK 1 (stB sv)) (chK (chB chv)) 3 (jsB jv) (odB (chv 2)) 4).st v W,
   is (.int .i64 0)])
  ⟨is_k, is_k, ab_k fun v W W' hb h => (IsJobs.below h hb), is_k, ab_k fun v W W' hb h => (IsOd.below h hb), ab_k fun v W W' hb ⟨x0, e, h0⟩ => ⟨x0, e, (IsSt.below h0 hb)⟩, ab_k fun v W W' hb ⟨x0, e, h0⟩ => ⟨x0, e, (IsSt.below h0 hb)⟩, ab_k fun v W W' hb h => (IsSt.below h hb), is_k, ab_k fun v W W' hb h => (IsSt.below h hb), is_k, trivial⟩
  ⟨fun f s W g i l m o a => opv rfl rfl (by simp [go_sem, a.e 12 k54_12, cb b54_12 g 0, cb b54_12 g 1, cb b54_12 g 2]) rfl,
  fun f s W g i l m o a => opv rfl rfl (by simp [go_sem, a.e 13 k54_13]) rfl,
  fun f s W g i l m o a => opDo_call (args := #[.pointer (some ⟨bk4, 0, none⟩)]) rfl rfl (by simp [go_sem, a.e 112 (i 1 rfl)]) (jobs_own bk4 ga42 4 ca42 (jsB jv) (adB bk9 bk10 bk11 bk6) (fun _ => 3) W (cb b54_7 g 0) (lt_of_blk (blk_below b54_7 g)) ((JbR.below q83' g)) (by decide) (by decide) (fun j _ => by rw [jsB_ms]; decide)) ((fun e W' h => by obtain ⟨v, e1, h1, h2⟩ := h; exact ⟨_, e1, h2, h1⟩)),
  fun f s W g i l m o a => opv rfl rfl (by simp [go_sem, a.e 9 k54_9]) rfl,
  fun f s W g i l m o a => opDo_call rfl rfl (by simp [go_sem, a.e 114 (i 3 rfl)]) (arm_ints_own (some ⟨ga45, 0, none⟩) (ca45) 4 (odL (chv 2)) W ((Ii.below q84' g (Nat.le_refl _))) (by decide) (by decide)) ((fun e W' h => by obtain ⟨v, e1, ⟨g_, c_, e2, h1⟩, h2⟩ := h; exact ⟨v, e1, h2, ⟨g_, c_, e2, h1.ii⟩⟩)),
  fun f s W g i l m o a => by obtain ⟨b89', c90', ad91', cp92', d2, q93'⟩ := (i 2 rfl); obtain ⟨g94', c95', d4, q96'⟩ := (i 4 rfl); exact opDo_call (args := #[.agg #[.int .i64 3, .slice (some ⟨bk14, 0, none⟩) (2) (2), .slice (some ⟨bk19, 0, none⟩) (1) (1)], .slice (some ⟨b89', 0, none⟩) (4) (c90'), .slice (some ⟨g94', 0, none⟩) (4) (c95')]) rfl rfl (by simp [go_sem, a.e 111 (i 0 rfl), a.e 113 d2, a.e 115 d4]) (starts_4 3 1 (chB chv) (stB sv) (jsB jv) bk14 0 2 bk19 0 1 b89' 0 c90' (some ⟨bk19, 0, none⟩) (chBa bk12 bk13) (fun _ => 2) ad91' cp92' (odB (chv 2)) (some ⟨g94', 0, none⟩) 4 c95' (odL (chv 2)) W (flB gj gg gs (by decide)) ⟨chB_R (blk_below b54_5 g) (blk_below b54_3 g) (blk_below b54_4 g), (fun _ => ⟨rfl, lt_of_blk (blk_below b54_13 g), cb b54_13 g 0, cb b54_13 g 1, cb b54_13 g 2⟩), q93'⟩ q96' rfl (odB_ok _).1 (odB_ok _).2.1 (odB_ok _).2.2) ((fun e W' h => by obtain ⟨v, e1, h1, h2⟩ := h; exact ⟨_, e1, h2, ⟨v, rfl, h1⟩⟩)),
  fun f s W g i l m o a => opv (v := (f 5)) rfl rfl (by simp [go_sem, (a.at' 116 rfl : o.tmps[116]?.getD undef = f 5)] <;> rfl) (i 5 rfl),
  fun f s W g i l m o a => by obtain ⟨x6_0, d6, p6_0⟩ := (i 6 rfl); exact opv (v := x6_0) rfl rfl (by simp [go_sem, a.e 110 d6]) p6_0,
  fun f s W g i l m o a => by obtain ⟨x6_0, d6, p6_0⟩ := (i 6 rfl); exact opv rfl rfl (by simp [go_sem, a.e 110 d6]) rfl,
  fun f s W g i l m o a => opv (v := (f 7)) rfl rfl (by simp [go_sem, (a.at' 117 rfl : o.tmps[117]?.getD undef = f 7)] <;> rfl) (i 7 rfl),
  fun f s W g i l m o a => opv rfl rfl (by simp [go_sem, a.e 118 (i 8 rfl)]) rfl, trivial⟩ ?_
 intro f55 s55 W55 hB55 g55 hg55
 have fB55 := hB55.f fB54
 have z55 := hB55.below.size
 have b55_0 := hB55.b b54_0
 have b55_1 := hB55.b b54_1
 have b55_2 := hB55.b b54_2
 have b55_3 := hB55.b b54_3
 have b55_4 := hB55.b b54_4
 have b55_5 := hB55.b b54_5
 have b55_6 := hB55.b b54_6
 have b55_7 := hB55.b b54_7
 have b55_8 := hB55.b b54_8
 have b55_9 := hB55.b b54_9
 have b55_10 := hB55.b b54_10
 have b55_11 := hB55.b b54_11
 have b55_12 := hB55.b b54_12
 have b55_13 := hB55.b b54_13
 have q101' := (JbR.below q83' hB55.below)
 have q102' := (Ii.below q84' hB55.below (Nat.le_refl _))
 have q103' := (StL.below q88' hB55.below)
 obtain ⟨b104', sa105', sc106', r55_9, q107'⟩ := hB55.is 9
 refine hK37 _ _ ?_
 have k55_4 := kt hg55 4 k54_4
 have k55_6 := kt hg55 6 k54_6
 have k55_8 := kt hg55 8 k54_8
 have k55_14 := kt hg55 14 k54_14
 have k55_15 := kt hg55 15 k54_15
 have k55_16 := kt hg55 16 r55_9
 have k55_17 := kt hg55 17 (hB55.is 10)
 refine wp_seq_k fun K38 hK38 => ?_
 refine wp_seq_k fun K39 hK39 => ?_
 refine region_dk 16 [(119, 0), (120, 1), (121, 2), (122, 3), (123, 4), (124, 5), (125, 6), (126, 7), (127, 8), (128, 9), (129, 10), (130, 11), (131, 12), (132, 13), (133, 14), (134, 15)] [[], [0], [0, 1], [0, 1, 2], [0, 1, 2, 3], [0, 1, 2, 3, 4], [0, 1, 2, 3, 4, 5], [0, 1, 2, 3, 4, 5, 6], [0, 1, 2, 3, 4, 5, 6, 7], [0, 1, 2, 3, 4, 5, 6, 7, 8], [0, 1, 2, 3, 4, 5, 6, 7, 8, 9], [0, 1, 2, 3, 4, 5, 6, 7, 8, 9, 10], [0, 1, 2, 3, 4, 5, 6, 7, 8, 9, 10, 11], [0, 1, 2, 3, 4, 5, 6, 7, 8, 9, 10, 11, 12], [0, 1, 2, 3, 4, 5, 6, 7, 8, 9, 10, 11, 12, 13], [0, 1, 2, 3, 4, 5, 6, 7, 8, 9, 10, 11, 12, 13, 14]] (rel [is (.int .i64 0),
   is (.bool false),
   is (.bool false),
   is (.int .i64 0),
   is (.bool false),
   is (.bool false),
   is (.bool false),
   is (.slice (some ⟨b85', 0, none⟩) (4) (4)),
   is (.int .i64 4),
   is (.bool false),
   is (.bool false),
   is (.bool false),
   is (.slice (some ⟨b104', 0, none⟩) (4) (4)),
   is (.int .i64 4),
   is (.bool false),
   is (.bool false)])
  ⟨is_k, is_k, is_k, is_k, is_k, is_k, is_k, is_k, is_k, is_k, is_k, is_k, is_k, is_k, is_k, is_k, trivial⟩
  ⟨fun f s W g i l m o a => opv rfl rfl (by simp [go_sem, a.e 15 k55_15]) rfl,
  fun f s W g i l m o a => opv rfl rfl (by simp [go_sem, a.e 119 (i 0 rfl)]) rfl,
  fun f s W g i l m o a => opv rfl rfl (by simp [go_sem, a.e 120 (i 1 rfl)]) rfl,
  fun f s W g i l m o a => osure rfl rfl (a.says (d := 121) rfl rfl (i 2 rfl)) (gv (by simp [go_sem, a.e 17 k55_17]) rfl),
  fun f s W g i l m o a => osure rfl rfl (a.says (d := 121) rfl rfl (i 2 rfl)) (gv (by simp [go_sem, a.e 122 (i 3 rfl)]) rfl),
  fun f s W g i l m o a => opk (c := false) rfl rfl (fun _ => by simp [go_sem, a.e 121 (i 2 rfl), a.e 123 (i 4 rfl)]) (fun h => absurd h (by decide)),
  fun f s W g i l m o a => opv rfl rfl (by simp [go_sem, a.e 124 (i 5 rfl)]) rfl,
  fun f s W g i l m o a => osure rfl rfl (a.says (d := 125) rfl rfl (i 6 rfl)) (gv (by simp [go_sem, a.e 14 k55_14]) rfl),
  fun f s W g i l m o a => osure rfl rfl (a.says (d := 125) rfl rfl (i 6 rfl)) (gv (by simp [go_sem, a.e 126 (i 7 rfl)]) rfl),
  fun f s W g i l m o a => osure rfl rfl (a.says (d := 125) rfl rfl (i 6 rfl)) (gv (by simp [go_sem, a.e 127 (i 8 rfl)]) rfl),
  fun f s W g i l m o a => opk (c := false) rfl rfl (fun _ => by simp [go_sem, a.e 125 (i 6 rfl), a.e 128 (i 9 rfl)]) (fun h => absurd h (by decide)),
  fun f s W g i l m o a => opv rfl rfl (by simp [go_sem, a.e 129 (i 10 rfl)]) rfl,
  fun f s W g i l m o a => osure rfl rfl (a.says (d := 130) rfl rfl (i 11 rfl)) (gv (by simp [go_sem, a.e 16 k55_16]) rfl),
  fun f s W g i l m o a => osure rfl rfl (a.says (d := 130) rfl rfl (i 11 rfl)) (gv (by simp [go_sem, a.e 131 (i 12 rfl)]) rfl),
  fun f s W g i l m o a => osure rfl rfl (a.says (d := 130) rfl rfl (i 11 rfl)) (gv (by simp [go_sem, a.e 132 (i 13 rfl)]) rfl),
  fun f s W g i l m o a => opk (c := false) rfl rfl (fun _ => by simp [go_sem, a.e 130 (i 11 rfl), a.e 133 (i 14 rfl)]) (fun h => absurd h (by decide)), trivial⟩ ?_
 intro f56 s56 W56 hB56 g56 hg56
 have fB56 := hB56.f fB55
 have z56 := hB56.below.size
 have b56_0 := hB56.b b55_1
 have b56_1 := hB56.b b55_7
 have q108' := (JbR.below q101' hB56.below)
 have q109' := (StL.below q103' hB56.below)
 have q110' := (StL.below q107' hB56.below)
 refine hK39 _ _ ?_
 have k56_4 := kt hg56 4 k55_4
 have k56_6 := kt hg56 6 k55_6
 have k56_8 := kt hg56 8 k55_8
 have k56_14 := kt hg56 14 k55_14
 have k56_16 := kt hg56 16 k55_16
 have k56_134 := kt hg56 134 (hB56.is 15)
 refine wp_cond_false ((fr_eval rfl).trans k56_134) ?_
 refine wp_skip ?_
 refine hK38 _ _ ?_
 exact damp_main_c16 jv chv sv sx mo w gj gg gs hsx hsl hmo hml g56 W56 bk1 bk4 b85' b104' bk9 bk10 bk11 bk6 ga42 sa86' sc87' sa105' sc106' ca42 k56_4 k56_6 k56_8 k56_14 k56_16 fB56 b56_0 b56_1 q108' q109' q110' (by omega) (by omega) (by first | assumption | exact Ne.symm (by assumption) | omega)
end Go.Proofs.Ytcgccflcjejlhaa
