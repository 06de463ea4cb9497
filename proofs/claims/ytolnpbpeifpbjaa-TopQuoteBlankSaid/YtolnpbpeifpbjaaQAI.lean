/- Part of the proof: what the claim leans on. -/
import Derived.Test.YtolnpbpeifpbjaaQAG
import Derived.Test.YtolnpbpeifpbjaaQAF
set_option linter.unusedSimpArgs false
set_option linter.unusedVariables false
namespace Go.Proofs.Ytolnpbpeifpbjaa
open Go.RowKit
def docB : Bl := ⟨35, [304, 204, 304, 204], 208, [101, 101], [101, 101], 6, false⟩
theorem dv_size : checkErr docB = 0 ∧ acrossOf docB = 1051 ∧ alongOf docB = 410 := ⟨by kernel_rfl, by kernel_rfl, by kernel_rfl⟩
theorem dv_sort1 : sortI [200000, 300000, 201000] = [200000, 201000, 300000] := by simp [sortI, List.mergeSort, List.MergeSort.Internal.splitInTwo, List.merge]
theorem dv_sort2 : sortI [300000, 200000, 200000] = [200000, 200000, 300000] := by simp [sortI, List.mergeSort, List.MergeSort.Internal.splitInTwo, List.merge]
theorem dv_sort3 : sortI [301000, 201000, 202000] = [201000, 202000, 301000] := by simp [sortI, List.mergeSort, List.MergeSort.Internal.splitInTwo, List.merge]
theorem dv_holds : holdsErr docB (3000, 4000) [200, 300, 201] = 0 ∧ fitsOf docB 4000 [200, 300, 201] = false ∧ fitsOf docB 3000 [200, 300, 201] = true := by
  refine ⟨by kernel_rfl, ?_, ?_⟩
  · unfold fitsOf
    rw [show ([200, 300, 201] : List Int).map (1000 * ·) = [200000, 300000, 201000] from rfl, show roomOf docB 4000 = [300000, 200000, 200000] from by kernel_rfl, dv_sort1, dv_sort2]; rfl
  · unfold fitsOf
    rw [show ([200, 300, 201] : List Int).map (1000 * ·) = [200000, 300000, 201000] from rfl, show roomOf docB 3000 = [301000, 201000, 202000] from by kernel_rfl, dv_sort1, dv_sort3]; rfl
set_option maxRecDepth 100000 in
set_option maxHeartbeats 8000000 in
theorem pubScore_yes (w : World) :
  Calls Try.prog 12 #[] w (fun e w' => e = .returned (.bool true) ∧ Below w.heap.size w w') := by
 refine calls_fr Try.func12 Try.ntmps12 rfl rfl fun g hg => ?_
 clear hg
 have fB0 : Below w.heap.size w w := Below.refl _ _
 refine wp_seq_k fun K1 hK1 => ?_
 refine region_dk 1 [(0, 0)] [[]] (rel [is (.bool false)])
  ⟨is_k, trivial⟩
  ⟨fun f s W i j k l m a => opv rfl rfl (by simp [go_sem]) rfl, trivial⟩ ?_
 intro f1 s1 W1 hB1 g1 hg1
 have fB1 := hB1.f fB0
 have z1 := hB1.below.size
 refine hK1 _ _ ?_
 have k1_0 := kt hg1 0 (hB1.is 0)
 refine wp_seq_k fun K2 hK2 => ?_
 refine region_dk 5 [(9, 0), (10, 1), (11, 2), (12, 3), (1, 4)] [[], [], [], [0, 1, 2], [], [0, 1, 2, 3, 4]] (rel [row 0 4 #[.int .i64 304, .int .i64 204, .int .i64 304, .int .i64 204] 3,
   row 1 2 #[.int .i64 101, .int .i64 101] 3,
   row 2 2 #[.int .i64 101, .int .i64 101] 3,
   isS fun s => .agg #[.int .i64 35, .slice (some ⟨(s 0), 0, none⟩) (4) (4), .int .i64 208, .slice (some ⟨(s 1), 0, none⟩) (2) (2), .slice (some ⟨(s 2), 0, none⟩) (2) (2), .int .i64 6, .bool false],
   bx 4 #[.int .i64 0, .slice (none) (0) (0), .int .i64 0, .slice (none) (0) (0), .slice (none) (0) (0), .int .i64 0, .bool false] 41])
  ⟨row_k, row_k, row_k, isS_k fun s s' e => by rw [e 0 (by simp), e 1 (by simp), e 2 (by simp)], bx_k, trivial⟩
  ⟨fun f s W i j k l m a => opr rfl rfl (by simp [go_sem]),
  fun f s W i j k l m a => opr rfl rfl (by simp [go_sem]),
  fun f s W i j k l m a => opr rfl rfl (by simp [go_sem]),
  fun f s W i j k l m a => opv rfl rfl (by simp [go_sem, a.e 9 (j 0 rfl).1, a.e 10 (j 1 rfl).1, a.e 11 (j 2 rfl).1, upd]) rfl,
  fun f s W i j k l m a => opb rfl rfl (by simp [go_sem]), trivial⟩ ?_
 intro f2 s2 W2 hB2 g2 hg2
 have fB2 := hB2.f fB1
 have z2 := hB2.below.size
 obtain ⟨r2_0, br2_0⟩ := hB2.is 0
 have lr2_0 := hB2.lr 0 br2_0
 obtain ⟨r2_1, br2_1⟩ := hB2.is 1
 have lr2_1 := hB2.lr 1 br2_1
 obtain ⟨r2_2, br2_2⟩ := hB2.is 2
 have lr2_2 := hB2.lr 2 br2_2
 obtain ⟨r2_4, br2_4⟩ := hB2.is 4
 have lr2_4 := hB2.lr 4 br2_4
 have ne2_0_1 := hB2.nb 0 1
 have ne2_0_2 := hB2.nb 0 2
 have ne2_1_2 := hB2.nb 1 2
 have ne2_0_4 := hB2.nb 0 4
 have ne2_1_4 := hB2.nb 1 4
 have ne2_2_4 := hB2.nb 2 4
 have k2_0 := kt hg2 0 k1_0
 have k2_12 := kt hg2 12 (hB2.is 3)
 have k2_1 := kt hg2 1 r2_4
 obtain ⟨W3, hW3⟩ : ∃ W', W' = W2.setRow (s2 4) #[.int .i64 35, .slice (some ⟨(s2 0), 0, none⟩) (4) (4), .int .i64 208, .slice (some ⟨(s2 1), 0, none⟩) (2) (2), .slice (some ⟨(s2 2), 0, none⟩) (2) (2), .int .i64 6, .bool false] := ⟨_, rfl⟩
 refine tail_skip (o := _) rfl ⟨rfl, rfl⟩ (run_seg hW3 (fr_ev k2_1) (fr_ev k2_12) br2_4 rfl rfl rfl rfl) ?_
 obtain ⟨fB3, nb3, ot3, z3⟩ := seg_facts hW3 fB2 br2_4 (by omega)
 clear hW3
 have b3_0 := ot3 _ _ (by omega) br2_0
 have b3_1 := ot3 _ _ (by omega) br2_1
 have b3_2 := ot3 _ _ (by omega) br2_2
 refine wpOps_end ?_
 refine hK2 _ _ ?_
 refine wp_seq_k fun K3 hK3 => ?_
 refine region_dk 11 [(14, 0), (15, 1), (16, 2), (17, 3), (13, 4), (18, 5), (19, 6), (20, 7), (2, 8), (3, 9), (4, 10)] [[], [], [], [0, 1, 2], [0, 1, 2, 3], [0, 1, 2, 3, 4], [0, 1, 2, 3, 4], [0, 1, 2, 3, 4], [0, 1, 2, 3, 4, 5], [0, 1, 2, 3, 4, 5, 6, 8], [0, 1, 2, 3, 4, 5, 6, 7, 8, 9]] (rel [is (.agg #[.int .i64 35, .slice (some ⟨(s2 0), 0, none⟩) (4) (4), .int .i64 208, .slice (some ⟨(s2 1), 0, none⟩) (2) (2), .slice (some ⟨(s2 2), 0, none⟩) (2) (2), .int .i64 6, .bool false]),
   is (.agg #[.int .i64 3000, .int .i64 4000]),
   row 2 3 #[.int .i64 200, .int .i64 300, .int .i64 201] 3,
   is (.tuple #[.bool false, .bool true, .int .i64 0]),
   is (.tuple #[.bool false, .bool true, .int .i64 0]),
   is (.bool false),
   is (.bool true),
   is (.int .i64 0),
   is (.bool false),
   is (.bool true),
   is (.int .i64 0)])
  ⟨is_k, is_k, row_k, is_k, is_k, is_k, is_k, is_k, is_k, is_k, is_k, trivial⟩
  ⟨fun f s W i j k l m a => opv rfl rfl (by simp [go_sem, a.e 1 k2_1, cb nb3 i 0, cb nb3 i 1, cb nb3 i 2, cb nb3 i 3, cb nb3 i 4, cb nb3 i 5, cb nb3 i 6]) rfl,
  fun f s W i j k l m a => opc rfl rfl (by simp [go_sem]) (pubSpan_any (3000) (4000) W),
  fun f s W i j k l m a => opr rfl rfl (by simp [go_sem]),
  fun f s W i j k l m a => opDo_call (args := #[.agg #[.int .i64 35, .slice (some ⟨(s2 0), 0, none⟩) (4) (4), .int .i64 208, .slice (some ⟨(s2 1), 0, none⟩) (2) (2), .slice (some ⟨(s2 2), 0, none⟩) (2) (2), .int .i64 6, .bool false], .agg #[.int .i64 3000, .int .i64 4000], .slice (some ⟨(s 2), 0, none⟩) (3) (3)]) rfl rfl (by simp [go_sem, a.e 14 (j 0 rfl), a.e 15 (j 1 rfl), a.e 16 (j 2 rfl).1]) (holds_any _ docB 3000 4000 _ _ _ [200, 300, 201] W ⟨_, _, _, _, _, _, _, _, _, rfl, ii_block (xs := [304, 204, 304, 204]) (blk_below b3_0 i) rfl rfl, ii_block (xs := [101, 101]) (blk_below b3_1 i) rfl rfl, ii_block (xs := [101, 101]) (blk_below b3_2 i) rfl rfl⟩ (ii_block (xs := [200, 300, 201]) (j 2 rfl).2 rfl rfl)) ((fun e W' h => ⟨_, h.1, h.2, by show (Value.tuple #[.bool (if holdsErr docB (3000, 4000) [200, 300, 201] = 0 then fitsOf docB 4000 [200, 300, 201] else false), .bool (if holdsErr docB (3000, 4000) [200, 300, 201] = 0 then fitsOf docB 3000 [200, 300, 201] else false), .int .i64 (holdsErr docB (3000, 4000) [200, 300, 201])]) = _; rw [dv_holds.1, if_pos rfl, if_pos rfl, dv_holds.2.1, dv_holds.2.2]⟩)),
  fun f s W i j k l m a => opv rfl rfl (by simp [go_sem, a.e 17 (j 3 rfl)]) rfl,
  fun f s W i j k l m a => opv rfl rfl (by simp [go_sem, a.e 13 (j 4 rfl)]) rfl,
  fun f s W i j k l m a => opv rfl rfl (by simp [go_sem, a.e 13 (j 4 rfl)]) rfl,
  fun f s W i j k l m a => opv rfl rfl (by simp [go_sem, a.e 13 (j 4 rfl)]) rfl,
  fun f s W i j k l m a => opv rfl rfl (by simp [go_sem, a.e 18 (j 5 rfl)]) rfl,
  fun f s W i j k l m a => opv rfl rfl (by simp [go_sem, a.e 19 (j 6 rfl)]) rfl,
  fun f s W i j k l m a => opv rfl rfl (by simp [go_sem, a.e 20 (j 7 rfl)]) rfl, trivial⟩ ?_
 intro f4 s4 W4 hB4 g4 hg4
 have fB4 := hB4.f fB3
 have z4 := hB4.below.size
 have b4_0 := hB4.b b3_0
 have b4_1 := hB4.b b3_1
 have b4_2 := hB4.b b3_2
 have b4_3 := hB4.b nb3
 obtain ⟨r4_2, br4_2⟩ := hB4.is 2
 have lr4_2 := hB4.lr 2 br4_2
 refine hK3 _ _ ?_
 have k4_0 := kt hg4 0 k2_0
 have k4_1 := kt hg4 1 k2_1
 have k4_2 := kt hg4 2 (hB4.is 8)
 have k4_3 := kt hg4 3 (hB4.is 9)
 have k4_4 := kt hg4 4 (hB4.is 10)
 refine wp_seq_k fun K4 hK4 => ?_
 refine region_dk 11 [(22, 0), (23, 1), (21, 2), (24, 3), (25, 4), (26, 5), (27, 6), (5, 7), (6, 8), (7, 9), (8, 10)] [[], [0], [0, 1], [0, 1, 2], [0, 1, 2], [0, 1, 2], [0, 1, 2], [0, 1, 2, 3], [0, 1, 2, 3, 4, 7], [0, 1, 2, 3, 4, 5, 7, 8], [0, 1, 2, 3, 4, 5, 6, 7, 8, 9]] (rel [is (.agg #[.int .i64 35, .slice (some ⟨(s2 0), 0, none⟩) (4) (4), .int .i64 208, .slice (some ⟨(s2 1), 0, none⟩) (2) (2), .slice (some ⟨(s2 2), 0, none⟩) (2) (2), .int .i64 6, .bool false]),
   is (.tuple #[.int .i64 1051, .int .i64 410, .int .i64 430910, .int .i64 0]),
   is (.tuple #[.int .i64 1051, .int .i64 410, .int .i64 430910, .int .i64 0]),
   is (.int .i64 1051),
   is (.int .i64 410),
   is (.int .i64 430910),
   is (.int .i64 0),
   is (.int .i64 1051),
   is (.int .i64 410),
   is (.int .i64 430910),
   is (.int .i64 0)])
  ⟨is_k, is_k, is_k, is_k, is_k, is_k, is_k, is_k, is_k, is_k, is_k, trivial⟩
  ⟨fun f s W i j k l m a => opv rfl rfl (by simp [go_sem, a.e 1 k4_1, cb b4_3 i 0, cb b4_3 i 1, cb b4_3 i 2, cb b4_3 i 3, cb b4_3 i 4, cb b4_3 i 5, cb b4_3 i 6]) rfl,
  fun f s W i j k l m a => opDo_call (args := #[.agg #[.int .i64 35, .slice (some ⟨(s2 0), 0, none⟩) (4) (4), .int .i64 208, .slice (some ⟨(s2 1), 0, none⟩) (2) (2), .slice (some ⟨(s2 2), 0, none⟩) (2) (2), .int .i64 6, .bool false]]) rfl rfl (by simp [go_sem, a.e 22 (j 0 rfl)]) (size_any _ docB W ⟨_, _, _, _, _, _, _, _, _, rfl, ii_block (xs := [304, 204, 304, 204]) (blk_below b4_0 i) rfl rfl, ii_block (xs := [101, 101]) (blk_below b4_1 i) rfl rfl, ii_block (xs := [101, 101]) (blk_below b4_2 i) rfl rfl⟩) ((fun e W' h => ⟨_, h.1, h.2, by rw [if_pos dv_size.1, dv_size.2.1, dv_size.2.2]; rfl⟩)),
  fun f s W i j k l m a => opv rfl rfl (by simp [go_sem, a.e 23 (j 1 rfl)]) rfl,
  fun f s W i j k l m a => opv rfl rfl (by simp [go_sem, a.e 21 (j 2 rfl)]) rfl,
  fun f s W i j k l m a => opv rfl rfl (by simp [go_sem, a.e 21 (j 2 rfl)]) rfl,
  fun f s W i j k l m a => opv rfl rfl (by simp [go_sem, a.e 21 (j 2 rfl)]) rfl,
  fun f s W i j k l m a => opv rfl rfl (by simp [go_sem, a.e 21 (j 2 rfl)]) rfl,
  fun f s W i j k l m a => opv rfl rfl (by simp [go_sem, a.e 24 (j 3 rfl)]) rfl,
  fun f s W i j k l m a => opv rfl rfl (by simp [go_sem, a.e 25 (j 4 rfl)]) rfl,
  fun f s W i j k l m a => opv rfl rfl (by simp [go_sem, a.e 26 (j 5 rfl)]) rfl,
  fun f s W i j k l m a => opv rfl rfl (by simp [go_sem, a.e 27 (j 6 rfl)]) rfl, trivial⟩ ?_
 intro f5 s5 W5 hB5 g5 hg5
 have fB5 := hB5.f fB4
 have z5 := hB5.below.size
 have b5_0 := hB5.b b4_0
 have b5_1 := hB5.b b4_1
 have b5_2 := hB5.b b4_2
 have b5_3 := hB5.b b4_3
 have b5_4 := hB5.b br4_2
 refine hK4 _ _ ?_
 have k5_0 := kt hg5 0 k4_0
 have k5_2 := kt hg5 2 k4_2
 have k5_3 := kt hg5 3 k4_3
 have k5_4 := kt hg5 4 k4_4
 have k5_6 := kt hg5 6 (hB5.is 8)
 have k5_8 := kt hg5 8 (hB5.is 10)
 refine wp_seq_k fun K5 hK5 => ?_
 refine region_dk 18 [(28, 0), (29, 1), (30, 2), (31, 3), (32, 4), (33, 5), (34, 6), (35, 7), (36, 8), (37, 9), (38, 10), (39, 11), (40, 12), (41, 13), (42, 14), (43, 15), (44, 16), (0, 17)] [[], [0], [0, 1], [0, 1, 2], [0, 1, 2, 3], [0, 1, 2, 3, 4], [0, 1, 2, 3, 4, 5], [0, 1, 2, 3, 4, 5, 6], [0, 1, 2, 3, 4, 5, 6, 7], [0, 1, 2, 3, 4, 5, 6, 7, 8], [0, 1, 2, 3, 4, 5, 6, 7, 8, 9], [0, 1, 2, 3, 4, 5, 6, 7, 8, 9, 10], [0, 1, 2, 3, 4, 5, 6, 7, 8, 9, 10, 11], [0, 1, 2, 3, 4, 5, 6, 7, 8, 9, 10, 11, 12], [0, 1, 2, 3, 4, 5, 6, 7, 8, 9, 10, 11, 12, 13], [0, 1, 2, 3, 4, 5, 6, 7, 8, 9, 10, 11, 12, 13, 14], [0, 1, 2, 3, 4, 5, 6, 7, 8, 9, 10, 11, 12, 13, 14, 15], [0, 1, 2, 3, 4, 5, 6, 7, 8, 9, 10, 11, 12, 13, 14, 15, 16]] (rel [is (.int .i64 0),
   is (.bool true),
   is (.bool true),
   is (.int .i64 0),
   is (.bool true),
   is (.bool true),
   is (.bool true),
   is (.bool false),
   is (.bool true),
   is (.bool true),
   is (.bool true),
   is (.bool true),
   is (.bool true),
   is (.bool true),
   is (.int .i64 410),
   is (.bool true),
   is (.bool true),
   is (.bool true)])
  ⟨is_k, is_k, is_k, is_k, is_k, is_k, is_k, is_k, is_k, is_k, is_k, is_k, is_k, is_k, is_k, is_k, is_k, is_k, trivial⟩
  ⟨fun f s W i j k l m a => opv rfl rfl (by simp [go_sem, a.e 4 k5_4]) rfl,
  fun f s W i j k l m a => opv rfl rfl (by simp [go_sem, a.e 28 (j 0 rfl)]) rfl,
  fun f s W i j k l m a => opv rfl rfl (by simp [go_sem, a.e 29 (j 1 rfl)]) rfl,
  fun f s W i j k l m a => osure rfl rfl (a.says (d := 30) rfl rfl (j 2 rfl)) (gv (by simp [go_sem, a.e 8 k5_8]) rfl),
  fun f s W i j k l m a => osure rfl rfl (a.says (d := 30) rfl rfl (j 2 rfl)) (gv (by simp [go_sem, a.e 31 (j 3 rfl)]) rfl),
  fun f s W i j k l m a => opk (c := true) rfl rfl (fun h => absurd h (by decide)) (fun _ => by simp [go_sem, a.e 30 (j 2 rfl), a.e 32 (j 4 rfl)]),
  fun f s W i j k l m a => opv rfl rfl (by simp [go_sem, a.e 33 (j 5 rfl)]) rfl,
  fun f s W i j k l m a => osure rfl rfl (a.says (d := 34) rfl rfl (j 6 rfl)) (gv (by simp [go_sem, a.e 2 k5_2]) rfl),
  fun f s W i j k l m a => osure rfl rfl (a.says (d := 34) rfl rfl (j 6 rfl)) (gv (by simp [go_sem, a.e 35 (j 7 rfl)]) rfl),
  fun f s W i j k l m a => opk (c := true) rfl rfl (fun h => absurd h (by decide)) (fun _ => by simp [go_sem, a.e 34 (j 6 rfl), a.e 36 (j 8 rfl)]),
  fun f s W i j k l m a => opv rfl rfl (by simp [go_sem, a.e 37 (j 9 rfl)]) rfl,
  fun f s W i j k l m a => osure rfl rfl (a.says (d := 38) rfl rfl (j 10 rfl)) (gv (by simp [go_sem, a.e 3 k5_3]) rfl),
  fun f s W i j k l m a => opk (c := true) rfl rfl (fun h => absurd h (by decide)) (fun _ => by simp [go_sem, a.e 38 (j 10 rfl), a.e 39 (j 11 rfl)]),
  fun f s W i j k l m a => opv rfl rfl (by simp [go_sem, a.e 40 (j 12 rfl)]) rfl,
  fun f s W i j k l m a => osure rfl rfl (a.says (d := 41) rfl rfl (j 13 rfl)) (gv (by simp [go_sem, a.e 6 k5_6]) rfl),
  fun f s W i j k l m a => osure rfl rfl (a.says (d := 41) rfl rfl (j 13 rfl)) (gv (by simp [go_sem, a.e 42 (j 14 rfl)]) rfl),
  fun f s W i j k l m a => opk (c := true) rfl rfl (fun h => absurd h (by decide)) (fun _ => by simp [go_sem, a.e 41 (j 13 rfl), a.e 43 (j 15 rfl)]),
  fun f s W i j k l m a => opv rfl rfl (by simp [go_sem, a.e 44 (j 16 rfl)]) rfl, trivial⟩ ?_
 intro f6 s6 W6 hB6 g6 hg6
 have fB6 := hB6.f fB5
 have z6 := hB6.below.size
 have b6_0 := hB6.b b5_0
 have b6_1 := hB6.b b5_1
 have b6_2 := hB6.b b5_2
 have b6_3 := hB6.b b5_3
 have b6_4 := hB6.b b5_4
 refine hK5 _ _ ?_
 have k6_0 := kt hg6 0 (hB6.is 17)
 refine wp_ret ?_
 refine leave_one (N := 45) (v := .bool true) (.inr rfl) Try.results12 rfl k6_0 ?_
 exact ⟨rfl, fB6⟩
end Go.Proofs.Ytolnpbpeifpbjaa
