/- Part of the proof: what the claim leans on. -/
import Derived.Test.YtcgccflcjejlhaaDAW
set_option linter.unusedSimpArgs false
set_option linter.unusedVariables false
namespace Go.Proofs.Ytcgccflcjejlhaa
open Go.RowKit
set_option maxRecDepth 100000 in
set_option maxHeartbeats 40000000 in
theorem damp_main_c9 (jv chv sv : Nat → Int) (sx : Nat → Nat → Int) (mo : Nat → Nat → Int × Int) (w : World) (gj : ∀ k, 0 ≤ jv k ∧ jv k ≤ 255) (gg : ∀ k, 0 ≤ chv k ∧ chv k ≤ 255) (gs : ∀ k, 0 ≤ sv k ∧ sv k ≤ 255) (hsx : ∀ n k : Nat, elT ((runF (freeK n (stB sv)) (chK (chB chv)) 3 (jsB jv) (odB (chv 2)) 4).st k) 2 = sx n k) (hsl : ∀ k, k < 4 → 0 ≤ sx 0 k ∧ sx 0 k ≤ sx 1 k ∧ sx 1 k ≤ 29745) (hmo : ∀ n k : Nat, moF (1 + chv 3 % 5) 3 50 60 (dsW ((sx n k + jv (k * 5 + 4)) / 60)) 1 = mo n k) (hml : ∀ k, k < 4 → (mo 0 k).1 ≤ (mo 1 k).1 ∧ (mo 0 k).2 ≤ (mo 1 k).2 ∧ 50 ≤ (mo 0 k).1) (gc_ : Nat → Value) (Wc_ : World) (bk0 : Nat) (bk1 : Nat) (bk2 : Nat) (bk3 : Nat) (bk4 : Nat) (bk5 : Nat) (ga32 : Nat) (ca32 : Nat) (bk6 : Nat) (bk7 : Nat) (ga42 : Nat) (ca42 : Nat) (ga35 : Nat) (ca35 : Nat) (bk8 : Nat) (ga45 : Nat) (ca45 : Nat) (bk9 : Nat) (bk10 : Nat) (bk11 : Nat) (bk12 : Nat) (bk13 : Nat) (bk14 : Nat) (bk15 : Nat) (bk16 : Nat) (bk17 : Nat)  (k_4 : gc_ 4 = .pointer (some ⟨bk1, 0, none⟩)) (k_5 : gc_ 5 = .pointer (some ⟨bk2, 0, none⟩)) (k_6 : gc_ 6 = .bool false) (k_7 : gc_ 7 = .pointer (some ⟨bk3, 0, none⟩)) (k_8 : gc_ 8 = .pointer (some ⟨bk4, 0, none⟩)) (k_9 : gc_ 9 = .slice (some ⟨ga45, 0, none⟩) (4) (ca45)) (fB_ : Below w.heap.size w Wc_) (bl_0 : Wc_.heap[bk0]? = some (.cells #[.int .u8 ((jv 0)), .int .u8 ((jv 1)), .int .u8 ((jv 2)), .int .u8 ((jv 3)), .int .u8 ((jv 4)), .int .u8 ((jv 5)), .int .u8 ((jv 6)), .int .u8 ((jv 7)), .int .u8 ((jv 8)), .int .u8 ((jv 9)), .int .u8 ((jv 10)), .int .u8 ((jv 11)), .int .u8 ((jv 12)), .int .u8 ((jv 13)), .int .u8 ((jv 14)), .int .u8 ((jv 15)), .int .u8 ((jv 16)), .int .u8 ((jv 17)), .int .u8 ((jv 18)), .int .u8 ((jv 19))] 23 (0, 0))) (bl_1 : Wc_.heap[bk1]? = some (.cells #[.int .u8 ((chv 0)), .int .u8 ((chv 1)), .int .u8 ((chv 2)), .int .u8 ((chv 3))] 24 (0, 0))) (bl_2 : Wc_.heap[bk2]? = some (.cells #[.int .u8 ((sv 0)), .int .u8 ((sv 1)), .int .u8 ((sv 2)), .int .u8 ((sv 3))] 24 (0, 0))) (bl_3 : Wc_.heap[bk12]? = some (.cells #[.int .i64 0, .int .i64 ((chv 0))] 3 (0, 0))) (bl_4 : Wc_.heap[bk13]? = some (.cells #[.int .i64 ((chv 1)), .int .i64 0] 3 (0, 0))) (bl_5 : Wc_.heap[bk14]? = some (.cells #[.slice (some ⟨bk12, 0, none⟩) (2) (2), .slice (some ⟨bk13, 0, none⟩) (2) (2)] 25 (0, 0))) (bl_6 : Wc_.heap[bk3]? = some (.cells #[.int .i64 3, .slice (some ⟨bk14, 0, none⟩) (2) (2), .slice (none) (0) (0)] 29 (0, 0))) (bl_7 : Wc_.heap[bk4]? = some (.cells #[.slice (some ⟨ga42, 0, none⟩) (4) (ca42)] 30 (0, 0))) (bl_8 : Wc_.heap[bk15]? = some (.cells #[.int .u8 ((jv 0)), .int .u8 ((jv 1)), .int .u8 ((jv 2)), .int .u8 ((jv 3)), .int .u8 ((jv 4))] 22 (0, 0))) (bl_9 : Wc_.heap[bk9]? = some (.cells #[.int .i64 ((jv 2)), .int .i64 ((jv 3)), .int .i64 ((jv 4))] 3 (0, 0))) (bl_10 : Wc_.heap[bk16]? = some (.cells #[.int .u8 ((jv 5)), .int .u8 ((jv 6)), .int .u8 ((jv 7)), .int .u8 ((jv 8)), .int .u8 ((jv 9))] 22 (0, 0))) (bl_11 : Wc_.heap[bk10]? = some (.cells #[.int .i64 ((jv 7)), .int .i64 ((jv 8)), .int .i64 ((jv 9))] 3 (0, 0))) (bl_12 : Wc_.heap[bk17]? = some (.cells #[.int .u8 ((jv 10)), .int .u8 ((jv 11)), .int .u8 ((jv 12)), .int .u8 ((jv 13)), .int .u8 ((jv 14))] 22 (0, 0))) (bl_13 : Wc_.heap[bk11]? = some (.cells #[.int .i64 ((jv 12)), .int .i64 ((jv 13)), .int .i64 ((jv 14))] 3 (0, 0))) (bl_14 : Wc_.heap[bk5]? = some (.cells #[.int .u8 ((jv 15)), .int .u8 ((jv 16)), .int .u8 ((jv 17)), .int .u8 ((jv 18)), .int .u8 ((jv 19))] 22 (0, 0))) (bl_15 : Wc_.heap[bk6]? = some (.cells #[.int .i64 ((jv 17)), .int .i64 ((jv 18)), .int .i64 ((jv 19))] 3 (0, 0))) (ft_0 : OwnN 32 4 w.heap.size 4 [.int .i64 (((jv 0) % 2)), .int .i64 ((jv 1)), .int .i64 (2 * (jv 0)), .slice (some ⟨bk9, 0, none⟩) (3) (3), .int .i64 (((jv 5) % 2)), .int .i64 ((jv 6)), .int .i64 (2 * (jv 5)), .slice (some ⟨bk10, 0, none⟩) (3) (3), .int .i64 (((jv 10) % 2)), .int .i64 ((jv 11)), .int .i64 (2 * (jv 10)), .slice (some ⟨bk11, 0, none⟩) (3) (3), .int .i64 (((jv 15) % 2)), .int .i64 ((jv 16)), .int .i64 (2 * (jv 15)), .slice (some ⟨bk6, 0, none⟩) (3) (3)] (some ⟨ga42, 0, none⟩) ca42 Wc_) (ft_1 : OwnI w.heap.size ([((chv 2) % 4), ((1 + (chv 2)) % 4), ((2 + (chv 2)) % 4), ((3 + (chv 2)) % 4)]) ga45 ca45 Wc_) (lw_bk0 : w.heap.size ≤ bk0) (lw_bk1 : w.heap.size ≤ bk1) (lw_bk2 : w.heap.size ≤ bk2) (lw_bk12 : w.heap.size ≤ bk12) (lw_bk13 : w.heap.size ≤ bk13) (lw_bk14 : w.heap.size ≤ bk14) (lw_bk3 : w.heap.size ≤ bk3) (lw_bk4 : w.heap.size ≤ bk4) (lw_bk15 : w.heap.size ≤ bk15) (lw_bk9 : w.heap.size ≤ bk9) (lw_bk16 : w.heap.size ≤ bk16) (lw_bk10 : w.heap.size ≤ bk10) (lw_bk17 : w.heap.size ≤ bk17) (lw_bk11 : w.heap.size ≤ bk11) (lw_bk5 : w.heap.size ≤ bk5) (lw_bk6 : w.heap.size ≤ bk6) (ne_0_1 : bk0 ≠ bk1) (ne_0_2 : bk0 ≠ bk2) (ne_1_2 : bk1 ≠ bk2) (ne_0_3 : bk0 ≠ bk12) (ne_1_3 : bk1 ≠ bk12) (ne_2_3 : bk2 ≠ bk12) (ne_0_4 : bk0 ≠ bk13) (ne_1_4 : bk1 ≠ bk13) (ne_2_4 : bk2 ≠ bk13) (ne_3_4 : bk12 ≠ bk13) (ne_0_5 : bk0 ≠ bk14) (ne_1_5 : bk1 ≠ bk14) (ne_2_5 : bk2 ≠ bk14) (ne_3_5 : bk12 ≠ bk14) (ne_4_5 : bk13 ≠ bk14) (ne_0_6 : bk0 ≠ bk3) (ne_1_6 : bk1 ≠ bk3) (ne_2_6 : bk2 ≠ bk3) (ne_3_6 : bk12 ≠ bk3) (ne_4_6 : bk13 ≠ bk3) (ne_5_6 : bk14 ≠ bk3) (ne_0_7 : bk0 ≠ bk4) (ne_1_7 : bk1 ≠ bk4) (ne_2_7 : bk2 ≠ bk4) (ne_3_7 : bk12 ≠ bk4) (ne_4_7 : bk13 ≠ bk4) (ne_5_7 : bk14 ≠ bk4) (ne_6_7 : bk3 ≠ bk4) (ne_0_8 : bk0 ≠ bk15) (ne_1_8 : bk1 ≠ bk15) (ne_2_8 : bk2 ≠ bk15) (ne_3_8 : bk12 ≠ bk15) (ne_4_8 : bk13 ≠ bk15) (ne_5_8 : bk14 ≠ bk15) (ne_6_8 : bk3 ≠ bk15) (ne_7_8 : bk4 ≠ bk15) (ne_0_9 : bk0 ≠ bk9) (ne_1_9 : bk1 ≠ bk9) (ne_2_9 : bk2 ≠ bk9) (ne_3_9 : bk12 ≠ bk9) (ne_4_9 : bk13 ≠ bk9) (ne_5_9 : bk14 ≠ bk9) (ne_6_9 : bk3 ≠ bk9) (ne_7_9 : bk4 ≠ bk9) (ne_8_9 : bk15 ≠ bk9) (ne_0_10 : bk0 ≠ bk16) (ne_1_10 : bk1 ≠ bk16) (ne_2_10 : bk2 ≠ bk16) (ne_3_10 : bk12 ≠ bk16) (ne_4_10 : bk13 ≠ bk16) (ne_5_10 : bk14 ≠ bk16) (ne_6_10 : bk3 ≠ bk16) (ne_7_10 : bk4 ≠ bk16) (ne_8_10 : bk15 ≠ bk16) (ne_9_10 : bk9 ≠ bk16) (ne_0_11 : bk0 ≠ bk10) (ne_1_11 : bk1 ≠ bk10) (ne_2_11 : bk2 ≠ bk10) (ne_3_11 : bk12 ≠ bk10) (ne_4_11 : bk13 ≠ bk10) (ne_5_11 : bk14 ≠ bk10) (ne_6_11 : bk3 ≠ bk10) (ne_7_11 : bk4 ≠ bk10) (ne_8_11 : bk15 ≠ bk10) (ne_9_11 : bk9 ≠ bk10) (ne_10_11 : bk16 ≠ bk10) (ne_0_12 : bk0 ≠ bk17) (ne_1_12 : bk1 ≠ bk17) (ne_2_12 : bk2 ≠ bk17) (ne_3_12 : bk12 ≠ bk17) (ne_4_12 : bk13 ≠ bk17) (ne_5_12 : bk14 ≠ bk17) (ne_6_12 : bk3 ≠ bk17) (ne_7_12 : bk4 ≠ bk17) (ne_8_12 : bk15 ≠ bk17) (ne_9_12 : bk9 ≠ bk17) (ne_10_12 : bk16 ≠ bk17) (ne_11_12 : bk10 ≠ bk17) (ne_0_13 : bk0 ≠ bk11) (ne_1_13 : bk1 ≠ bk11) (ne_2_13 : bk2 ≠ bk11) (ne_3_13 : bk12 ≠ bk11) (ne_4_13 : bk13 ≠ bk11) (ne_5_13 : bk14 ≠ bk11) (ne_6_13 : bk3 ≠ bk11) (ne_7_13 : bk4 ≠ bk11) (ne_8_13 : bk15 ≠ bk11) (ne_9_13 : bk9 ≠ bk11) (ne_10_13 : bk16 ≠ bk11) (ne_11_13 : bk10 ≠ bk11) (ne_12_13 : bk17 ≠ bk11) (ne_0_14 : bk0 ≠ bk5) (ne_1_14 : bk1 ≠ bk5) (ne_2_14 : bk2 ≠ bk5) (ne_3_14 : bk12 ≠ bk5) (ne_4_14 : bk13 ≠ bk5) (ne_5_14 : bk14 ≠ bk5) (ne_6_14 : bk3 ≠ bk5) (ne_7_14 : bk4 ≠ bk5) (ne_8_14 : bk15 ≠ bk5) (ne_9_14 : bk9 ≠ bk5) (ne_10_14 : bk16 ≠ bk5) (ne_11_14 : bk10 ≠ bk5) (ne_12_14 : bk17 ≠ bk5) (ne_13_14 : bk11 ≠ bk5) (ne_0_15 : bk0 ≠ bk6) (ne_1_15 : bk1 ≠ bk6) (ne_2_15 : bk2 ≠ bk6) (ne_3_15 : bk12 ≠ bk6) (ne_4_15 : bk13 ≠ bk6) (ne_5_15 : bk14 ≠ bk6) (ne_6_15 : bk3 ≠ bk6) (ne_7_15 : bk4 ≠ bk6) (ne_8_15 : bk15 ≠ bk6) (ne_9_15 : bk9 ≠ bk6) (ne_10_15 : bk16 ≠ bk6) (ne_11_15 : bk10 ≠ bk6) (ne_12_15 : bk17 ≠ bk6) (ne_13_15 : bk11 ≠ bk6) (ne_14_15 : bk5 ≠ bk6) (ne_0_16 : bk0 ≠ ga45) (ne_1_16 : bk1 ≠ ga45) (ne_2_16 : bk2 ≠ ga45) (ne_3_16 : bk12 ≠ ga45) (ne_4_16 : bk13 ≠ ga45) (ne_5_16 : bk14 ≠ ga45) (ne_6_16 : bk3 ≠ ga45) (ne_7_16 : bk4 ≠ ga45) (ne_8_16 : bk15 ≠ ga45) (ne_9_16 : bk9 ≠ ga45) (ne_10_16 : bk16 ≠ ga45) (ne_11_16 : bk10 ≠ ga45) (ne_12_16 : bk17 ≠ ga45) (ne_13_16 : bk11 ≠ ga45) (ne_14_16 : bk5 ≠ ga45) (ne_15_16 : bk6 ≠ ga45) :
  (tailC 4 (bodyC Try.f3)).wp Try.prog (bodyPost Try.prog Try.f3 (fun e w' => e = .returned (.bool true) ∧ Below w.heap.size w w')) (fr 256 gc_) Wc_ := by
 have j0_ := gj 0
 have j1_ := gj 1
 have j2_ := gj 2
 have j3_ := gj 3
 have j4_ := gj 4
 have j5_ := gj 5
 have j6_ := gj 6
 have j7_ := gj 7
 have j8_ := gj 8
 have j9_ := gj 9
 have j10_ := gj 10
 have j11_ := gj 11
 have j12_ := gj 12
 have j13_ := gj 13
 have j14_ := gj 14
 have j15_ := gj 15
 have j16_ := gj 16
 have j17_ := gj 17
 have j18_ := gj 18
 have j19_ := gj 19
 have v0_ := gg 0
 have v1_ := gg 1
 have v2_ := gg 2
 have v3_ := gg 3
 have s0_ := gs 0
 have s1_ := gs 1
 have s2_ := gs 2
 have lt_bk0 := lt_of_blk bl_0
 have lt_bk1 := lt_of_blk bl_1
 have lt_bk2 := lt_of_blk bl_2
 have lt_bk12 := lt_of_blk bl_3
 have lt_bk13 := lt_of_blk bl_4
 have lt_bk14 := lt_of_blk bl_5
 have lt_bk3 := lt_of_blk bl_6
 have lt_bk4 := lt_of_blk bl_7
 have lt_bk15 := lt_of_blk bl_8
 have lt_bk9 := lt_of_blk bl_9
 have lt_bk16 := lt_of_blk bl_10
 have lt_bk10 := lt_of_blk bl_11
 have lt_bk17 := lt_of_blk bl_12
 have lt_bk11 := lt_of_blk bl_13
 have lt_bk5 := lt_of_blk bl_14
 have lt_bk6 := lt_of_blk bl_15
 have lo_ft_1 := ft_1.lim
 refine wp_seq_k fun K33 hK33 => ?_
 refine region_dk 2 [(79, 0), (12, 1)] [[], [], [0, 1]] (rel [is (.agg #[.int .i64 3, .slice (some ⟨bk14, 0, none⟩) (2) (2), .slice (none) (0) (0)]),
   bx 1 #[.int .i64 0, .slice (none) (0) (0), .slice (none) (0) (0)] 29])
  ⟨is_k, bx_k, trivial⟩
  ⟨fun f s W c d g h i a => opv rfl rfl (by simp [go_sem, a.e 7 k_7, cb bl_6 c 0, cb bl_6 c 1, cb bl_6 c 2]) rfl,
  fun f s W c d g h i a => opb rfl rfl (by simp [go_sem]), trivial⟩ ?_
 intro f49 s49 W49 hB49 g49 hg49
 have fB49 := hB49.f fB_
 have z49 := hB49.below.size
 have b49_0 := hB49.b bl_0
 have b49_1 := hB49.b bl_1
 have b49_2 := hB49.b bl_2
 have b49_3 := hB49.b bl_3
 have b49_4 := hB49.b bl_4
 have b49_5 := hB49.b bl_5
 have b49_6 := hB49.b bl_6
 have b49_7 := hB49.b bl_7
 have b49_8 := hB49.b bl_8
 have b49_9 := hB49.b bl_9
 have b49_10 := hB49.b bl_10
 have b49_11 := hB49.b bl_11
 have b49_12 := hB49.b bl_12
 have b49_13 := hB49.b bl_13
 have b49_14 := hB49.b bl_14
 have b49_15 := hB49.b bl_15
 have q61' := (ft_0.below hB49.below)
 have q62' := (ft_1.below hB49.below)
 obtain ⟨r49_1, br49_1⟩ := hB49.is 1
 have lr49_1 := hB49.lr 1 br49_1
 have k49_4 := kt hg49 4 k_4
 have k49_5 := kt hg49 5 k_5
 have k49_6 := kt hg49 6 k_6
 have k49_7 := kt hg49 7 k_7
 have k49_8 := kt hg49 8 k_8
 have k49_9 := kt hg49 9 k_9
 have k49_79 := kt hg49 79 (hB49.is 0)
 have k49_12 := kt hg49 12 r49_1
 obtain ⟨W50, hW50⟩ : ∃ W', W' = W49.setRow (s49 1) #[.int .i64 3, .slice (some ⟨bk14, 0, none⟩) (2) (2), .slice (none) (0) (0)] := ⟨_, rfl⟩
 refine tail_skip (o := _) rfl ⟨rfl, rfl⟩ (run_seg hW50 (fr_ev k49_12) (fr_ev k49_79) br49_1 rfl rfl rfl rfl) ?_
 obtain ⟨fB50, nb50, ot50, z50⟩ := seg_facts hW50 fB49 br49_1 (by omega)
 clear hW50
 have b50_0 := ot50 _ _ (by first | assumption | exact Ne.symm (by assumption) | omega) b49_0
 have b50_1 := ot50 _ _ (by first | assumption | exact Ne.symm (by assumption) | omega) b49_1
 have b50_2 := ot50 _ _ (by first | assumption | exact Ne.symm (by assumption) | omega) b49_2
 have b50_3 := ot50 _ _ (by first | assumption | exact Ne.symm (by assumption) | omega) b49_3
 have b50_4 := ot50 _ _ (by first | assumption | exact Ne.symm (by assumption) | omega) b49_4
 have b50_5 := ot50 _ _ (by first | assumption | exact Ne.symm (by assumption) | omega) b49_5
 have b50_6 := ot50 _ _ (by first | assumption | exact Ne.symm (by assumption) | omega) b49_6
 have b50_7 := ot50 _ _ (by first | assumption | exact Ne.symm (by assumption) | omega) b49_7
 have b50_8 := ot50 _ _ (by first | assumption | exact Ne.symm (by assumption) | omega) b49_8
 have b50_9 := ot50 _ _ (by first | assumption | exact Ne.symm (by assumption) | omega) b49_9
 have b50_10 := ot50 _ _ (by first | assumption | exact Ne.symm (by assumption) | omega) b49_10
 have b50_11 := ot50 _ _ (by first | assumption | exact Ne.symm (by assumption) | omega) b49_11
 have b50_12 := ot50 _ _ (by first | assumption | exact Ne.symm (by assumption) | omega) b49_12
 have b50_13 := ot50 _ _ (by first | assumption | exact Ne.symm (by assumption) | omega) b49_13
 have b50_14 := ot50 _ _ (by first | assumption | exact Ne.symm (by assumption) | omega) b49_14
 have b50_15 := ot50 _ _ (by first | assumption | exact Ne.symm (by assumption) | omega) b49_15
 have q63' := q61'.other ot50 (ownN_ne q61' br49_1 (by decide)) z50
 have q64' := q62'.other ot50 (by first | assumption | exact Ne.symm (by assumption) | omega) z50
 refine wpOps_end ?_
 refine hK33 _ _ ?_
 refine wp_seq_k fun K34 hK34 => ?_
 refine region_dk 20 [(80, 0), (81, 1), (82, 2), (83, 3), (84, 4), (85, 5), (86, 6), (87, 7), (88, 8), (89, 9), (90, 10), (91, 11), (92, 12), (93, 13), (94, 14), (95, 15), (96, 16), (97, 17), (98, 18), (99, 19)] [[], [0], [0, 1], [0, 1, 2], [], [4], [4, 5], [4, 5, 6], [], [8], [8, 9], [8, 9, 10], [8, 9, 10, 11], [], [13], [13, 14], [8, 9, 10, 11, 12, 13, 14, 15], [0, 1, 2, 3, 4, 5, 6, 7, 8, 9, 10, 11, 12, 13, 14, 15, 16], [0, 1, 2, 3, 4, 5, 6, 7, 8, 9, 10, 11, 12, 13, 14, 15, 16, 17], [0, 1, 2, 3, 4, 5, 6, 7, 8, 9, 10, 11, 12, 13, 14, 15, 16, 17, 18], [0, 1, 2, 3, 4, 5, 6, 7, 8, 9, 10, 11, 12, 13, 14, 15, 16, 17, 18, 19]] (rel [is (.pointer (some ⟨bk2, 0, none⟩)),
   is (.int .u8 ((sv 0))),
   is (.int .i64 ((sv 0))),
   is (.int .i64 (((sv 0) % 3))),
   is (.pointer (some ⟨bk2, 1, none⟩)),
   is (.int .u8 ((sv 1))),
   is (.int .i64 ((sv 1))),
   is (.int .i64 (3 * (sv 1))),
   is (.pointer (some ⟨bk2, 1, none⟩)),
   is (.int .u8 ((sv 1))),
   is (.int .i64 ((sv 1))),
   is (.int .i64 (3 * (sv 1))),
   is (.int .i64 ((3 * (sv 1)) + 1)),
   is (.pointer (some ⟨bk2, 2, none⟩)),
   is (.int .u8 ((sv 2))),
   is (.int .i64 ((sv 2))),
   is (.int .i64 (((3 * (sv 1)) + 1) + (sv 2))),
   is (.agg #[.int .i64 (((sv 0) % 3)), .int .i64 (3 * (sv 1)), .int .i64 (((3 * (sv 1)) + 1) + (sv 2))]),
   row 18 1 #[.int .i64 (((sv 0) % 3)), .int .i64 (3 * (sv 1)), .int .i64 (((3 * (sv 1)) + 1) + (sv 2))] 34,
   is (.pointer (some ⟨(s49 1), 2, none⟩))])
  ⟨is_k, is_k, is_k, is_k, is_k, is_k, is_k, is_k, is_k, is_k, is_k, is_k, is_k, is_k, is_k, is_k, is_k, is_k, row_k, is_k, trivial⟩
  ⟨fun f s W c d g h i a => opv rfl rfl (by simp [go_sem, a.e 5 k49_5]) rfl,
  fun f s W c d g h i a => opv rfl rfl (by simp [go_sem, a.e 80 (d 0 rfl), cb b50_2 c 0]) rfl,
  fun f s W c d g h i a => by have cv_ := IntWalk.i64_in (sv 0) (by omega); exact opv rfl rfl (by simp [go_sem, a.e 81 (d 1 rfl), cv_]) rfl,
  fun f s W c d g h i a => by have qu_ : ((sv 0)).tmod 3 = ((sv 0) % 3) := Int.tmod_eq_emod_of_nonneg (by omega); have qw_ := IntWalk.i64_in ((sv 0) % 3) (by omega); exact opv rfl rfl (by simp [go_sem, a.e 82 (d 2 rfl), qu_, qw_]) rfl,
  fun f s W c d g h i a => opv rfl rfl (by simp [go_sem, a.e 5 k49_5]) rfl,
  fun f s W c d g h i a => opv rfl rfl (by simp [go_sem, a.e 84 (d 4 rfl), cb b50_2 c 1]) rfl,
  fun f s W c d g h i a => by have cv_ := IntWalk.i64_in (sv 1) (by omega); exact opv rfl rfl (by simp [go_sem, a.e 85 (d 5 rfl), cv_]) rfl,
  fun f s W c d g h i a => opv rfl rfl (by simp [go_sem, a.e 86 (d 6 rfl), IntWalk.i64_in (3 * (sv 1)) (by omega)]) rfl,
  fun f s W c d g h i a => opv rfl rfl (by simp [go_sem, a.e 5 k49_5]) rfl,
  fun f s W c d g h i a => opv rfl rfl (by simp [go_sem, a.e 88 (d 8 rfl), cb b50_2 c 1]) rfl,
  fun f s W c d g h i a => by have cv_ := IntWalk.i64_in (sv 1) (by omega); exact opv rfl rfl (by simp [go_sem, a.e 89 (d 9 rfl), cv_]) rfl,
  fun f s W c d g h i a => opv rfl rfl (by simp [go_sem, a.e 90 (d 10 rfl), IntWalk.i64_in (3 * (sv 1)) (by omega)]) rfl,
  fun f s W c d g h i a => opv rfl rfl (by simp [go_sem, a.e 91 (d 11 rfl), IntWalk.i64_in ((3 * (sv 1)) + 1) (by omega)]) rfl,
  fun f s W c d g h i a => opv rfl rfl (by simp [go_sem, a.e 5 k49_5]) rfl,
  fun f s W c d g h i a => opv rfl rfl (by simp [go_sem, a.e 93 (d 13 rfl), cb b50_2 c 2]) rfl,
  fun f s W c d g h i a => by have cv_ := IntWalk.i64_in (sv 2) (by omega); exact opv rfl rfl (by simp [go_sem, a.e 94 (d 14 rfl), cv_]) rfl,
  fun f s W c d g h i a => opv rfl rfl (by simp [go_sem, a.e 92 (d 12 rfl), a.e 95 (d 15 rfl), IntWalk.i64_in (((3 * (sv 1)) + 1) + (sv 2)) (by omega)]) rfl,
  fun f s W c d g h i a => opv rfl rfl (by simp [go_sem, a.e 83 (d 3 rfl), a.e 87 (d 7 rfl), a.e 96 (d 16 rfl)]) rfl,
  fun f s W c d g h i a => opr rfl rfl (by simp [go_sem, a.e 97 (d 17 rfl)]),
  fun f s W c d g h i a => opv rfl rfl (by simp [go_sem, a.e 12 k49_12]) rfl, trivial⟩ ?_
 intro f51 s51 W51 hB51 g51 hg51
 have fB51 := hB51.f fB50
 have z51 := hB51.below.size
 have b51_0 := hB51.b b50_0
 have b51_1 := hB51.b b50_1
 have b51_2 := hB51.b b50_2
 have b51_3 := hB51.b b50_3
 have b51_4 := hB51.b b50_4
 have b51_5 := hB51.b b50_5
 have b51_6 := hB51.b b50_6
 have b51_7 := hB51.b b50_7
 have b51_8 := hB51.b b50_8
 have b51_9 := hB51.b b50_9
 have b51_10 := hB51.b b50_10
 have b51_11 := hB51.b b50_11
 have b51_12 := hB51.b b50_12
 have b51_13 := hB51.b b50_13
 have b51_14 := hB51.b b50_14
 have b51_15 := hB51.b b50_15
 have b51_16 := hB51.b nb50
 have q65' := (q63'.below hB51.below)
 have q66' := (q64'.below hB51.below)
 obtain ⟨r51_18, br51_18⟩ := hB51.is 18
 have lr51_18 := hB51.lr 18 br51_18
 have k51_4 := kt hg51 4 k49_4
 have k51_6 := kt hg51 6 k49_6
 have k51_7 := kt hg51 7 k49_7
 have k51_8 := kt hg51 8 k49_8
 have k51_9 := kt hg51 9 k49_9
 have k51_12 := kt hg51 12 k49_12
 have k51_98 := kt hg51 98 r51_18
 have k51_99 := kt hg51 99 (hB51.is 19)
 obtain ⟨W52, hW52⟩ : ∃ W', W' = W51.setRow (s49 1) #[.int .i64 3, .slice (some ⟨bk14, 0, none⟩) (2) (2), .slice (some ⟨(s51 18), 0, none⟩) (1) (1)] := ⟨_, rfl⟩
 refine tail_skip (o := _) rfl ⟨rfl, rfl⟩ (run_seg hW52 (fr_ev k51_99) (fr_ev k51_98) b51_16 rfl rfl rfl rfl) ?_
 obtain ⟨fB52, nb52, ot52, z52⟩ := seg_facts hW52 fB51 b51_16 (by omega)
 clear hW52
 have b52_0 := ot52 _ _ (by first | assumption | exact Ne.symm (by assumption) | omega) b51_0
 have b52_1 := ot52 _ _ (by first | assumption | exact Ne.symm (by assumption) | omega) b51_1
 have b52_2 := ot52 _ _ (by first | assumption | exact Ne.symm (by assumption) | omega) b51_2
 have b52_3 := ot52 _ _ (by first | assumption | exact Ne.symm (by assumption) | omega) b51_3
 have b52_4 := ot52 _ _ (by first | assumption | exact Ne.symm (by assumption) | omega) b51_4
 have b52_5 := ot52 _ _ (by first | assumption | exact Ne.symm (by assumption) | omega) b51_5
 have b52_6 := ot52 _ _ (by first | assumption | exact Ne.symm (by assumption) | omega) b51_6
 have b52_7 := ot52 _ _ (by first | assumption | exact Ne.symm (by assumption) | omega) b51_7
 have b52_8 := ot52 _ _ (by first | assumption | exact Ne.symm (by assumption) | omega) b51_8
 have b52_9 := ot52 _ _ (by first | assumption | exact Ne.symm (by assumption) | omega) b51_9
 have b52_10 := ot52 _ _ (by first | assumption | exact Ne.symm (by assumption) | omega) b51_10
 have b52_11 := ot52 _ _ (by first | assumption | exact Ne.symm (by assumption) | omega) b51_11
 have b52_12 := ot52 _ _ (by first | assumption | exact Ne.symm (by assumption) | omega) b51_12
 have b52_13 := ot52 _ _ (by first | assumption | exact Ne.symm (by assumption) | omega) b51_13
 have b52_14 := ot52 _ _ (by first | assumption | exact Ne.symm (by assumption) | omega) b51_14
 have b52_15 := ot52 _ _ (by first | assumption | exact Ne.symm (by assumption) | omega) b51_15
 have b52_17 := ot52 _ _ (by first | assumption | exact Ne.symm (by assumption) | omega) br51_18
 have q67' := q65'.other ot52 (ownN_ne q65' b51_16 (by decide)) z52
 have q68' := q66'.other ot52 (by first | assumption | exact Ne.symm (by assumption) | omega) z52
 refine wpOps_end ?_
 refine hK34 _ _ ?_
 refine wp_seq_k fun K35 hK35 => ?_
 refine region_dk 2 [(100, 0), (13, 1)] [[], [0]] (rel [is (.func (.func 5) #[] #[.pointer (some ⟨bk4, 0, none⟩)]),
   is (.func (.func 5) #[] #[.pointer (some ⟨bk4, 0, none⟩)])])
  ⟨is_k, is_k, trivial⟩
  ⟨fun f s W c d g h i a => opv rfl rfl (by simp [go_sem, a.e 8 k51_8]) rfl,
  fun f s W c d g h i a => opv rfl rfl (by simp [go_sem, a.e 100 (d 0 rfl)]) rfl, trivial⟩ ?_
 intro f53 s53 W53 hB53 g53 hg53
 have fB53 := hB53.f fB52
 have z53 := hB53.below.size
 have b53_0 := hB53.b b52_0
 have b53_1 := hB53.b b52_1
 have b53_2 := hB53.b b52_2
 have b53_3 := hB53.b b52_3
 have b53_4 := hB53.b b52_4
 have b53_5 := hB53.b b52_5
 have b53_6 := hB53.b b52_6
 have b53_7 := hB53.b b52_7
 have b53_8 := hB53.b b52_8
 have b53_9 := hB53.b b52_9
 have b53_10 := hB53.b b52_10
 have b53_11 := hB53.b b52_11
 have b53_12 := hB53.b b52_12
 have b53_13 := hB53.b b52_13
 have b53_14 := hB53.b b52_14
 have b53_15 := hB53.b b52_15
 have b53_16 := hB53.b nb52
 have b53_17 := hB53.b b52_17
 have q69' := (q67'.below hB53.below)
 have q70' := (q68'.below hB53.below)
 refine hK35 _ _ ?_
 have k53_4 := kt hg53 4 k51_4
 have k53_6 := kt hg53 6 k51_6
 have k53_7 := kt hg53 7 k51_7
 have k53_8 := kt hg53 8 k51_8
 have k53_9 := kt hg53 9 k51_9
 have k53_12 := kt hg53 12 k51_12
 have k53_13 := kt hg53 13 (hB53.is 1)
 have jb_ : JbR W53 ga42 0 4 (jsB jv) (adB bk9 bk10 bk11 bk6) (fun _ => 3) := jb4 q69' b53_9 b53_11 b53_13 b53_15
 have io_ : Ii W53 (some ⟨ga45, 0, none⟩) 4 ca45 (odL (chv 2)) := q70'.ii
 exact damp_main_c12 jv chv sv sx mo w gj gg gs hsx hsl hmo hml g53 W53 bk1 bk3 bk4 ga45 ca45 (s49 1) bk9 bk10 bk11 bk6 ga42 bk12 bk13 bk14 ca42 (s51 18) bk0 bk2 bk15 bk16 bk17 bk5 k53_4 k53_6 k53_7 k53_8 k53_9 k53_12 k53_13 fB53 b53_0 b53_1 b53_2 b53_3 b53_4 b53_5 b53_6 b53_7 b53_8 b53_10 b53_12 b53_14 b53_16 b53_17 jb_ io_ (by omega) (by omega) (by omega) (by omega) (by omega) (by omega) (by omega) (by omega) (by omega) (by omega) (by omega) (by omega) (by omega) (by omega) (by first | assumption | exact Ne.symm (by assumption) | omega) (by first | assumption | exact Ne.symm (by assumption) | omega) (by first | assumption | exact Ne.symm (by assumption) | omega) (by first | assumption | exact Ne.symm (by assumption) | omega) (by first | assumption | exact Ne.symm (by assumption) | omega) (by first | assumption | exact Ne.symm (by assumption) | omega) (by first | assumption | exact Ne.symm (by assumption) | omega) (by first | assumption | exact Ne.symm (by assumption) | omega) (by first | assumption | exact Ne.symm (by assumption) | omega) (by first | assumption | exact Ne.symm (by assumption) | omega) (by first | assumption | exact Ne.symm (by assumption) | omega) (by first | assumption | exact Ne.symm (by assumption) | omega) (by first | assumption | exact Ne.symm (by assumption) | omega) (by first | assumption | exact Ne.symm (by assumption) | omega) (by first | assumption | exact Ne.symm (by assumption) | omega) (by first | assumption | exact Ne.symm (by assumption) | omega) (by first | assumption | exact Ne.symm (by assumption) | omega) (by first | assumption | exact Ne.symm (by assumption) | omega) (by first | assumption | exact Ne.symm (by assumption) | omega) (by first | assumption | exact Ne.symm (by assumption) | omega) (by first | assumption | exact Ne.symm (by assumption) | omega) (by first | assumption | exact Ne.symm (by assumption) | omega) (by first | assumption | exact Ne.symm (by assumption) | omega) (by first | assumption | exact Ne.symm (by assumption) | omega) (by first | assumption | exact Ne.symm (by assumption) | omega) (by first | assumption | exact Ne.symm (by assumption) | omega) (by first | assumption | exact Ne.symm (by assumption) | omega) (by first | assumption | exact Ne.symm (by assumption) | omega) (by first | assumption | exact Ne.symm (by assumption) | omega) (by first | assumption | exact Ne.symm (by assumption) | omega) (by first | assumption | exact Ne.symm (by assumption) | omega) (by first | assumption | exact Ne.symm (by assumption) | omega) (by first | assumption | exact Ne.symm (by assumption) | omega) (by first | assumption | exact Ne.symm (by assumption) | omega) (by first | assumption | exact Ne.symm (by assumption) | omega) (by first | assumption | exact Ne.symm (by assumption) | omega) (by first | assumption | exact Ne.symm (by assumption) | omega) (by first | assumption | exact Ne.symm (by assumption) | omega) (by first | assumption | exact Ne.symm (by assumption) | omega) (by first | assumption | exact Ne.symm (by assumption) | omega) (by first | assumption | exact Ne.symm (by assumption) | omega) (by first | assumption | exact Ne.symm (by assumption) | omega) (by first | assumption | exact Ne.symm (by assumption) | omega) (by first | assumption | exact Ne.symm (by assumption) | omega) (by first | assumption | exact Ne.symm (by assumption) | omega) (by first | assumption | exact Ne.symm (by assumption) | omega) (by first | assumption | exact Ne.symm (by assumption) | omega) (by first | assumption | exact Ne.symm (by assumption) | omega) (by first | assumption | exact Ne.symm (by assumption) | omega) (by first | assumption | exact Ne.symm (by assumption) | omega) (by first | assumption | exact Ne.symm (by assumption) | omega) (by first | assumption | exact Ne.symm (by assumption) | omega) (by first | assumption | exact Ne.symm (by assumption) | omega) (by first | assumption | exact Ne.symm (by assumption) | omega) (by first | assumption | exact Ne.symm (by assumption) | omega) (by first | assumption | exact Ne.symm (by assumption) | omega) (by first | assumption | exact Ne.symm (by assumption) | omega) (by first | assumption | exact Ne.symm (by assumption) | omega) (by first | assumption | exact Ne.symm (by assumption) | omega) (by first | assumption | exact Ne.symm (by assumption) | omega) (by first | assumption | exact Ne.symm (by assumption) | omega) (by first | assumption | exact Ne.symm (by assumption) | omega) (by first | assumption | exact Ne.symm (by assumption) | omega) (by first | assumption | exact Ne.symm (by assumption) | omega) (by first | assumption | exact Ne.symm (by assumption) | omega) (by first | assumption | exact Ne.symm (by assumption) | omega) (by first | assumption | exact Ne.symm (by assumption) | omega) (by first | assumption | exact Ne.symm (by assumption) | omega) (by first | assumption | exact Ne.symm (by assumption) | omega) (by first | assumption | exact Ne.symm (by assumption) | omega) (by first | assumption | exact Ne.symm (by assumption) | omega) (by first | assumption | exact Ne.symm (by assumption) | omega) (by first | assumption | exact Ne.symm (by assumption) | omega) (by first | assumption | exact Ne.symm (by assumption) | omega) (by first | assumption | exact Ne.symm (by assumption) | omega) (by first | assumption | exact Ne.symm (by assumption) | omega) (by first | assumption | exact Ne.symm (by assumption) | omega) (by first | assumption | exact Ne.symm (by assumption) | omega) (by first | assumption | exact Ne.symm (by assumption) | omega) (by first | assumption | exact Ne.symm (by assumption) | omega) (by first | assumption | exact Ne.symm (by assumption) | omega) (by first | assumption | exact Ne.symm (by assumption) | omega) (by first | assumption | exact Ne.symm (by assumption) | omega) (by first | assumption | exact Ne.symm (by assumption) | omega) (by first | assumption | exact Ne.symm (by assumption) | omega) (by first | assumption | exact Ne.symm (by assumption) | omega) (by first | assumption | exact Ne.symm (by assumption) | omega) (by first | assumption | exact Ne.symm (by assumption) | omega) (by first | assumption | exact Ne.symm (by assumption) | omega) (by first | assumption | exact Ne.symm (by assumption) | omega) (by first | assumption | exact Ne.symm (by assumption) | omega)
end Go.Proofs.Ytcgccflcjejlhaa
