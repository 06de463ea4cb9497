/- Part of the proof: what the claim leans on. -/
import Derived.Test.YtiocklgakklkpaaNAR
import Derived.Test.YtiocklgakklkpaaNAH
import Derived.Test.YtiocklgakklkpaaNAI
import Derived.Test.YtiocklgakklkpaaNAC
import Derived.RangeFuncNested
import Derived.RangeFuncBound
import Derived.RangeFuncCalls
import Derived.RangeFuncLeaves
import Derived.Shelf.Abstract
import Derived.Shelf.RegionOpen
import Derived.WalkKit
import Derived.OwnWalkIn
import Derived.TacticsInMore
import Derived.LoopNIn
import Derived.LoopIn
set_option linter.unusedSimpArgs false
set_option linter.unusedVariables false
namespace Go.Proofs.Ytiocklgakklkpaa
open Go.RowKit
def docP : Nat → Pa := fun i => if i = 0 then ⟨1, 200, 250, 270, 60, 80, 400000, 300⟩ else ⟨2, 120, 180, 190, 70, 90, 300000, 200⟩
def docF : Nat → Fu := fun _ => ⟨8000, 12000, 3600, 3700⟩
theorem docP_row {w : World} {b1 : Nat} (h1 : w.heap[b1]? = some (.cells #[.int .i64 1, .int .i64 200, .int .i64 250, .int .i64 270, .int .i64 60, .int .i64 80, .int .i64 400000, .int .i64 300, .int .i64 2, .int .i64 120, .int .i64 180, .int .i64 190, .int .i64 70, .int .i64 90, .int .i64 300000, .int .i64 200] 68 (0, 0))) : PaR w b1 0 2 docP := by
  refine ⟨lt_of_blk h1, fun i hi => ?_⟩
  match i, hi with
  | 0, _ => exact ⟨Joins.cell_of_block h1 0, Joins.cell_of_block h1 1, Joins.cell_of_block h1 2, Joins.cell_of_block h1 3, Joins.cell_of_block h1 4, Joins.cell_of_block h1 5, Joins.cell_of_block h1 6, Joins.cell_of_block h1 7⟩
  | 1, _ => exact ⟨Joins.cell_of_block h1 8, Joins.cell_of_block h1 9, Joins.cell_of_block h1 10, Joins.cell_of_block h1 11, Joins.cell_of_block h1 12, Joins.cell_of_block h1 13, Joins.cell_of_block h1 14, Joins.cell_of_block h1 15⟩
theorem docF_row {w : World} {b2 : Nat} (h2 : w.heap[b2]? = some (.cells #[.int .i64 8000, .int .i64 12000, .int .i64 3600, .int .i64 3700] 70 (0, 0))) : FuR w b2 0 1 docF := by
  refine ⟨lt_of_blk h2, fun i hi => ?_⟩
  match i, hi with
  | 0, _ => exact ⟨Joins.cell_of_block h2 0, Joins.cell_of_block h2 1, Joins.cell_of_block h2 2, Joins.cell_of_block h2 3⟩
theorem docP_in : ∀ i, i < 2 → PaIn (docP i) := by
  intro i hi
  match i, hi with
  | 0, _ => exact ⟨.inl rfl, by decide, by decide, by decide, by decide, by decide⟩
  | 1, _ => exact ⟨.inr rfl, by decide, by decide, by decide, by decide, by decide⟩
theorem docF_in : ∀ i, i < 1 → FuIn (docF i) := by
  intro i hi
  match i, hi with
  | 0, _ => exact ⟨by decide, by decide, by decide⟩
theorem weigh_doc (b1 b2 b3 b4 : Nat) (w : World) (h1 : w.heap[b1]? = some (.cells #[.int .i64 1, .int .i64 200, .int .i64 250, .int .i64 270, .int .i64 60, .int .i64 80, .int .i64 400000, .int .i64 300, .int .i64 2, .int .i64 120, .int .i64 180, .int .i64 190, .int .i64 70, .int .i64 90, .int .i64 300000, .int .i64 200] 68 (0, 0))) (h2 : w.heap[b2]? = some (.cells #[.int .i64 8000, .int .i64 12000, .int .i64 3600, .int .i64 3700] 70 (0, 0))) (h3 : w.heap[b3]? = some (.cells #[.int .i64 0, .int .i64 1, .int .i64 0] 3 (0, 0))) (h4 : w.heap[b4]? = some (.cells #[.int .i64 0] 3 (0, 0))) : Calls Try.prog 30 #[.agg #[.slice (some ⟨b1, 0, none⟩) (2) (2), .slice (some ⟨b2, 0, none⟩) (1) (1)], .agg #[.slice (some ⟨b3, 0, none⟩) (3) (3), .slice (some ⟨b4, 0, none⟩) (1) (1)]] w (fun e w' => e = .returned (.tuple #[.agg #[.int .i64 580, .int .i64 1], .int .i64 0]) ∧ Below w.heap.size w w') :=
  weigh_1 docP docF b1 0 2 2 b2 0 1 1 b3 0 3 b4 0 1 0 1 0 0 (docP 0) (docP 1) (docP 0) (docF 0) 1 (fun i => [200, 120, 200].getD i 0) w (docP_row h1) (docF_row h2) docP_in docF_in (by decide) (by decide) (by decide) (by decide) (ii_block (xs := [0, 1, 0]) h3 rfl rfl) (ii_block (xs := [0]) h4 rfl rfl) (by decide) rfl (by decide) rfl (by decide) rfl (by decide) rfl rfl rfl rfl rfl ⟨by decide, by decide⟩ ⟨by decide, by decide⟩ (by decide) ⟨by decide, by decide⟩ ⟨by decide, by decide⟩ ⟨by decide, by decide⟩ (by decide) (fun i hi => by match i, hi with | 0, _ => exact ⟨by decide, by decide⟩ | 1, _ => exact ⟨by decide, by decide⟩ | 2, _ => exact ⟨by decide, by decide⟩) rfl rfl rfl
theorem measure_doc (b1 b2 b3 b4 : Nat) (w : World) (h1 : w.heap[b1]? = some (.cells #[.int .i64 1, .int .i64 200, .int .i64 250, .int .i64 270, .int .i64 60, .int .i64 80, .int .i64 400000, .int .i64 300, .int .i64 2, .int .i64 120, .int .i64 180, .int .i64 190, .int .i64 70, .int .i64 90, .int .i64 300000, .int .i64 200] 68 (0, 0))) (h2 : w.heap[b2]? = some (.cells #[.int .i64 8000, .int .i64 12000, .int .i64 3600, .int .i64 3700] 70 (0, 0))) (h3 : w.heap[b3]? = some (.cells #[.int .i64 0, .int .i64 1, .int .i64 0] 3 (0, 0))) (h4 : w.heap[b4]? = some (.cells #[.int .i64 0] 3 (0, 0))) : Calls Try.prog 8 #[.agg #[.slice (some ⟨b1, 0, none⟩) (2) (2), .slice (some ⟨b2, 0, none⟩) (1) (1)], .agg #[.slice (some ⟨b3, 0, none⟩) (3) (3), .slice (some ⟨b4, 0, none⟩) (1) (1)]] w (fun e w' => e = .returned (.tuple #[.agg #[.int .i64 616, .int .i64 628], .agg #[.int .i64 4100, .int .i64 4240], .int .i64 0]) ∧ Below w.heap.size w w') :=
  Measure_1 docP docF b1 0 2 2 b2 0 1 1 b3 0 3 b4 0 1 0 1 0 0 (docP 0) (docP 1) (docP 0) (docF 0) 8000 1 4932800000 5025600000 616 628 4100 4240 (fun i => [212000, 128400, 212000].getD i 0) (fun i => [216000, 130800, 216000].getD i 0) w (docP_row h1) (docF_row h2) docP_in docF_in (by decide) (by decide) (by decide) (by decide) (ii_block (xs := [0, 1, 0]) h3 rfl rfl) (ii_block (xs := [0]) h4 rfl rfl) (by decide) rfl (by decide) rfl (by decide) rfl (by decide) rfl rfl rfl rfl rfl ⟨by decide, by decide⟩ ⟨by decide, by decide⟩ (by decide) ⟨by decide, by decide⟩ ⟨by decide, by decide⟩ ⟨by decide, by decide⟩ (by decide)
    (by decide) ⟨by decide, by decide⟩ (by decide) ⟨by decide, by decide⟩ (fun i hi => by match i, hi with | 0, _ => exact ⟨by decide, by decide⟩ | 1, _ => exact ⟨by decide, by decide⟩ | 2, _ => exact ⟨by decide, by decide⟩) rfl rfl rfl rfl (by decide) ⟨by decide, by decide⟩ (by decide) ⟨by decide, by decide⟩ (fun i hi => by match i, hi with | 0, _ => exact ⟨by decide, by decide⟩ | 1, _ => exact ⟨by decide, by decide⟩ | 2, _ => exact ⟨by decide, by decide⟩) rfl rfl rfl rfl
set_option maxRecDepth 100000 in
set_option maxHeartbeats 8000000 in
theorem pubBoard_yes (w : World) :
  Calls Try.prog 18 #[] w (fun e w' => e = .returned (.bool true) ∧ Below w.heap.size w w') := by
 refine calls_fr Try.func18 Try.ntmps18 rfl rfl fun g hg => ?_
 clear hg
 have fB0 : Below w.heap.size w w := Below.refl _ _
 refine wp_seq_k fun K1 hK1 => ?_
 refine region_dk 1 [(0, 0)] [[]] (rel [is (.bool false)])
  ⟨is_k, trivial⟩
  ⟨fun f s W i j k l m a => opv rfl rfl (by simp [go_sem]) rfl, trivial⟩ ?_
 intro f1 s1 W1 hB1 g1 hg1
 have fB1 := hB1.f fB0
 have z1 := hB1.below.size
 refine hK1 _ _ ?_
 have k1_0 := kt hg1 0 (hB1.is 0)
 refine wp_seq_k fun K2 hK2 => ?_
 refine region_dk 12 [(8, 0), (9, 1), (10, 2), (11, 3), (12, 4), (13, 5), (14, 6), (15, 7), (16, 8), (17, 9), (18, 10), (1, 11)] [[], [0], [0, 1], [0, 1], [0, 1, 3], [0, 1, 3, 4], [0, 1, 2, 3, 4, 5], [0, 1, 3, 4], [0, 1, 3, 4, 7], [0, 1, 3, 4, 7, 8], [0, 1, 2, 3, 4, 5, 6, 7, 8, 9], [], [0, 1, 2, 3, 4, 5, 6, 7, 8, 9, 10, 11]] (rel [is (.agg #[.int .i64 250, .int .i64 270]),
   is (.agg #[.int .i64 60, .int .i64 80]),
   is (.agg #[.int .i64 1, .int .i64 200, .int .i64 250, .int .i64 270, .int .i64 60, .int .i64 80, .int .i64 400000, .int .i64 300]),
   is (.agg #[.int .i64 180, .int .i64 190]),
   is (.agg #[.int .i64 70, .int .i64 90]),
   is (.agg #[.int .i64 2, .int .i64 120, .int .i64 180, .int .i64 190, .int .i64 70, .int .i64 90, .int .i64 300000, .int .i64 200]),
   row 6 2 #[.int .i64 1, .int .i64 200, .int .i64 250, .int .i64 270, .int .i64 60, .int .i64 80, .int .i64 400000, .int .i64 300, .int .i64 2, .int .i64 120, .int .i64 180, .int .i64 190, .int .i64 70, .int .i64 90, .int .i64 300000, .int .i64 200] 68,
   is (.agg #[.int .i64 3600, .int .i64 3700]),
   is (.agg #[.int .i64 8000, .int .i64 12000, .int .i64 3600, .int .i64 3700]),
   row 9 1 #[.int .i64 8000, .int .i64 12000, .int .i64 3600, .int .i64 3700] 70,
   isS fun s => .agg #[.slice (some ⟨(s 6), 0, none⟩) (2) (2), .slice (some ⟨(s 9), 0, none⟩) (1) (1)],
   bx 11 #[.slice (none) (0) (0), .slice (none) (0) (0)] 33])
  ⟨is_k, is_k, is_k, is_k, is_k, is_k, row_k, is_k, is_k, row_k, isS_k fun s s' e => by rw [e 6 (by simp), e 9 (by simp)], bx_k, trivial⟩
  ⟨fun f s W i j k l m a => opc rfl rfl (by simp [go_sem]) (pubSpan_any (250) (270) W),
  fun f s W i j k l m a => opc rfl rfl (by simp [go_sem]) (pubSpan_any (60) (80) W),
  fun f s W i j k l m a => opv rfl rfl (by simp [go_sem, a.e 8 (j 0 rfl), a.e 9 (j 1 rfl)]) rfl,
  fun f s W i j k l m a => opc rfl rfl (by simp [go_sem]) (pubSpan_any (180) (190) W),
  fun f s W i j k l m a => opc rfl rfl (by simp [go_sem]) (pubSpan_any (70) (90) W),
  fun f s W i j k l m a => opv rfl rfl (by simp [go_sem, a.e 11 (j 3 rfl), a.e 12 (j 4 rfl)]) rfl,
  fun f s W i j k l m a => opr rfl rfl (by simp [go_sem, a.e 10 (j 2 rfl), a.e 13 (j 5 rfl)]),
  fun f s W i j k l m a => opc rfl rfl (by simp [go_sem]) (pubSpan_any (3600) (3700) W),
  fun f s W i j k l m a => opv rfl rfl (by simp [go_sem, a.e 15 (j 7 rfl)]) rfl,
  fun f s W i j k l m a => opr rfl rfl (by simp [go_sem, a.e 16 (j 8 rfl)]),
  fun f s W i j k l m a => opv rfl rfl (by simp [go_sem, a.e 14 (j 6 rfl).1, a.e 17 (j 9 rfl).1, upd]) rfl,
  fun f s W i j k l m a => opb rfl rfl (by simp [go_sem]), trivial⟩ ?_
 intro f2 s2 W2 hB2 g2 hg2
 have fB2 := hB2.f fB1
 have z2 := hB2.below.size
 obtain ⟨r2_6, br2_6⟩ := hB2.is 6
 have lr2_6 := hB2.lr 6 br2_6
 obtain ⟨r2_9, br2_9⟩ := hB2.is 9
 have lr2_9 := hB2.lr 9 br2_9
 obtain ⟨r2_11, br2_11⟩ := hB2.is 11
 have lr2_11 := hB2.lr 11 br2_11
 have ne2_6_9 := hB2.nb 6 9
 have ne2_6_11 := hB2.nb 6 11
 have ne2_9_11 := hB2.nb 9 11
 have k2_0 := kt hg2 0 k1_0
 have k2_18 := kt hg2 18 (hB2.is 10)
 have k2_1 := kt hg2 1 r2_11
 obtain ⟨W3, hW3⟩ : ∃ W', W' = W2.setRow (s2 11) #[.slice (some ⟨(s2 6), 0, none⟩) (2) (2), .slice (some ⟨(s2 9), 0, none⟩) (1) (1)] := ⟨_, rfl⟩
 refine tail_skip (o := _) rfl ⟨rfl, rfl⟩ (run_seg hW3 (fr_ev k2_1) (fr_ev k2_18) br2_11 rfl rfl rfl rfl) ?_
 obtain ⟨fB3, nb3, ot3, z3⟩ := seg_facts hW3 fB2 br2_11 (by omega)
 clear hW3
 have b3_0 := ot3 _ _ (by omega) br2_6
 have b3_1 := ot3 _ _ (by omega) br2_9
 refine wpOps_end ?_
 refine hK2 _ _ ?_
 refine wp_seq_k fun K3 hK3 => ?_
 refine region_dk 4 [(19, 0), (20, 1), (21, 2), (2, 3)] [[], [], [0, 1], [], [0, 1, 2, 3]] (rel [row 0 3 #[.int .i64 0, .int .i64 1, .int .i64 0] 3,
   row 1 1 #[.int .i64 0] 3,
   isS fun s => .agg #[.slice (some ⟨(s 0), 0, none⟩) (3) (3), .slice (some ⟨(s 1), 0, none⟩) (1) (1)],
   bx 3 #[.slice (none) (0) (0), .slice (none) (0) (0)] 46])
  ⟨row_k, row_k, isS_k fun s s' e => by rw [e 0 (by simp), e 1 (by simp)], bx_k, trivial⟩
  ⟨fun f s W i j k l m a => opr rfl rfl (by simp [go_sem]),
  fun f s W i j k l m a => opr rfl rfl (by simp [go_sem]),
  fun f s W i j k l m a => opv rfl rfl (by simp [go_sem, a.e 19 (j 0 rfl).1, a.e 20 (j 1 rfl).1, upd]) rfl,
  fun f s W i j k l m a => opb rfl rfl (by simp [go_sem]), trivial⟩ ?_
 intro f4 s4 W4 hB4 g4 hg4
 have fB4 := hB4.f fB3
 have z4 := hB4.below.size
 have b4_0 := hB4.b b3_0
 have b4_1 := hB4.b b3_1
 have b4_2 := hB4.b nb3
 obtain ⟨r4_0, br4_0⟩ := hB4.is 0
 have lr4_0 := hB4.lr 0 br4_0
 obtain ⟨r4_1, br4_1⟩ := hB4.is 1
 have lr4_1 := hB4.lr 1 br4_1
 obtain ⟨r4_3, br4_3⟩ := hB4.is 3
 have lr4_3 := hB4.lr 3 br4_3
 have ne4_0_1 := hB4.nb 0 1
 have ne4_0_3 := hB4.nb 0 3
 have ne4_1_3 := hB4.nb 1 3
 have k4_0 := kt hg4 0 k2_0
 have k4_1 := kt hg4 1 k2_1
 have k4_21 := kt hg4 21 (hB4.is 2)
 have k4_2 := kt hg4 2 r4_3
 obtain ⟨W5, hW5⟩ : ∃ W', W' = W4.setRow (s4 3) #[.slice (some ⟨(s4 0), 0, none⟩) (3) (3), .slice (some ⟨(s4 1), 0, none⟩) (1) (1)] := ⟨_, rfl⟩
 refine tail_skip (o := _) rfl ⟨rfl, rfl⟩ (run_seg hW5 (fr_ev k4_2) (fr_ev k4_21) br4_3 rfl rfl rfl rfl) ?_
 obtain ⟨fB5, nb5, ot5, z5⟩ := seg_facts hW5 fB4 br4_3 (by omega)
 clear hW5
 have b5_0 := ot5 _ _ (by omega) b4_0
 have b5_1 := ot5 _ _ (by omega) b4_1
 have b5_2 := ot5 _ _ (by omega) b4_2
 have b5_3 := ot5 _ _ (by omega) br4_0
 have b5_4 := ot5 _ _ (by omega) br4_1
 refine wpOps_end ?_
 refine hK3 _ _ ?_
 refine wp_seq_k fun K4 hK4 => ?_
 refine region_dk 7 [(23, 0), (24, 1), (25, 2), (22, 3), (26, 4), (27, 5), (3, 6), (4, 8)] [[], [], [0, 1], [0, 1, 2], [0, 1, 2, 3], [0, 1, 2, 3], [], [0, 1, 2, 3, 4, 6], [0, 1, 2, 3, 4, 5, 6, 7]] (rel [is (.agg #[.slice (some ⟨(s2 6), 0, none⟩) (2) (2), .slice (some ⟨(s2 9), 0, none⟩) (1) (1)]),
   is (.agg #[.slice (some ⟨(s4 0), 0, none⟩) (3) (3), .slice (some ⟨(s4 1), 0, none⟩) (1) (1)]),
   is (.tuple #[.agg #[.int .i64 580, .int .i64 1], .int .i64 0]),
   is (.tuple #[.agg #[.int .i64 580, .int .i64 1], .int .i64 0]),
   is (.agg #[.int .i64 580, .int .i64 1]),
   is (.int .i64 0),
   bx 6 #[.int .i64 0, .int .i64 0] 86])
  ⟨is_k, is_k, is_k, is_k, is_k, is_k, bx_k, trivial⟩
  ⟨fun f s W i j k l m a => opv rfl rfl (by simp [go_sem, a.e 1 k4_1, cb b5_2 i 0, cb b5_2 i 1]) rfl,
  fun f s W i j k l m a => opv rfl rfl (by simp [go_sem, a.e 2 k4_2, cb nb5 i 0, cb nb5 i 1]) rfl,
  fun f s W i j k l m a => opc rfl rfl (by simp [go_sem, a.e 23 (j 0 rfl), a.e 24 (j 1 rfl)]) (weigh_doc (s2 6) (s2 9) (s4 0) (s4 1) W (blk_below b5_0 i) (blk_below b5_1 i) (blk_below b5_3 i) (blk_below b5_4 i)),
  fun f s W i j k l m a => opv rfl rfl (by simp [go_sem, a.e 25 (j 2 rfl)]) rfl,
  fun f s W i j k l m a => opv rfl rfl (by simp [go_sem, a.e 22 (j 3 rfl)]) rfl,
  fun f s W i j k l m a => opv rfl rfl (by simp [go_sem, a.e 22 (j 3 rfl)]) rfl,
  fun f s W i j k l m a => opb rfl rfl (by simp [go_sem]), trivial⟩ ?_
 intro f6 s6 W6 hB6 g6 hg6
 have fB6 := hB6.f fB5
 have z6 := hB6.below.size
 have b6_0 := hB6.b b5_0
 have b6_1 := hB6.b b5_1
 have b6_2 := hB6.b b5_2
 have b6_3 := hB6.b b5_3
 have b6_4 := hB6.b b5_4
 have b6_5 := hB6.b nb5
 obtain ⟨r6_6, br6_6⟩ := hB6.is 6
 have lr6_6 := hB6.lr 6 br6_6
 have k6_0 := kt hg6 0 k4_0
 have k6_1 := kt hg6 1 k4_1
 have k6_2 := kt hg6 2 k4_2
 have k6_26 := kt hg6 26 (hB6.is 4)
 have k6_27 := kt hg6 27 (hB6.is 5)
 have k6_3 := kt hg6 3 r6_6
 obtain ⟨W7, hW7⟩ : ∃ W', W' = W6.setRow (s6 6) #[.int .i64 580, .int .i64 1] := ⟨_, rfl⟩
 refine tail_skip (o := _) rfl ⟨rfl, rfl⟩ (run_seg hW7 (fr_ev k6_3) (fr_ev k6_26) br6_6 rfl rfl rfl rfl) ?_
 obtain ⟨fB7, nb7, ot7, z7⟩ := seg_facts hW7 fB6 br6_6 (by omega)
 clear hW7
 have b7_0 := ot7 _ _ (by omega) b6_0
 have b7_1 := ot7 _ _ (by omega) b6_1
 have b7_2 := ot7 _ _ (by omega) b6_2
 have b7_3 := ot7 _ _ (by omega) b6_3
 have b7_4 := ot7 _ _ (by omega) b6_4
 have b7_5 := ot7 _ _ (by omega) b6_5
 refine tail_value (o := _) rfl rfl rfl (v := .int .i64 0) (by simp [go_sem, frv 51 k6_27]) ?_
 generalize hg8 : upd g6 4 (.int .i64 0) = g8
 have k8_0 := ku hg8 0 k6_0
 have k8_1 := ku hg8 1 k6_1
 have k8_2 := ku hg8 2 k6_2
 have k8_3 := ku hg8 3 k6_3
 have k8_4 := kt hg8 4 (upd_same _ _ _)
 refine wpOps_end ?_
 refine hK4 _ _ ?_
 refine wp_seq_k fun K5 hK5 => ?_
 refine region_dk 9 [(29, 0), (30, 1), (31, 2), (28, 3), (32, 4), (33, 5), (34, 6), (5, 7), (6, 8), (7, 11)] [[], [], [0, 1], [0, 1, 2], [0, 1, 2, 3], [0, 1, 2, 3], [0, 1, 2, 3], [], [], [0, 1, 2, 3, 4, 7, 8], [0, 1, 2, 3, 4, 5, 7, 8, 9], [0, 1, 2, 3, 4, 5, 6, 7, 8, 9, 10]] (rel [is (.agg #[.slice (some ⟨(s2 6), 0, none⟩) (2) (2), .slice (some ⟨(s2 9), 0, none⟩) (1) (1)]),
   is (.agg #[.slice (some ⟨(s4 0), 0, none⟩) (3) (3), .slice (some ⟨(s4 1), 0, none⟩) (1) (1)]),
   is (.tuple #[.agg #[.int .i64 616, .int .i64 628], .agg #[.int .i64 4100, .int .i64 4240], .int .i64 0]),
   is (.tuple #[.agg #[.int .i64 616, .int .i64 628], .agg #[.int .i64 4100, .int .i64 4240], .int .i64 0]),
   is (.agg #[.int .i64 616, .int .i64 628]),
   is (.agg #[.int .i64 4100, .int .i64 4240]),
   is (.int .i64 0),
   bx 7 #[.int .i64 0, .int .i64 0] 40,
   bx 8 #[.int .i64 0, .int .i64 0] 40])
  ⟨is_k, is_k, is_k, is_k, is_k, is_k, is_k, bx_k, bx_k, trivial⟩
  ⟨fun f s W i j k l m a => opv rfl rfl (by simp [go_sem, a.e 1 k8_1, cb b7_2 i 0, cb b7_2 i 1]) rfl,
  fun f s W i j k l m a => opv rfl rfl (by simp [go_sem, a.e 2 k8_2, cb b7_5 i 0, cb b7_5 i 1]) rfl,
  fun f s W i j k l m a => opc rfl rfl (by simp [go_sem, a.e 29 (j 0 rfl), a.e 30 (j 1 rfl)]) (measure_doc (s2 6) (s2 9) (s4 0) (s4 1) W (blk_below b7_0 i) (blk_below b7_1 i) (blk_below b7_3 i) (blk_below b7_4 i)),
  fun f s W i j k l m a => opv rfl rfl (by simp [go_sem, a.e 31 (j 2 rfl)]) rfl,
  fun f s W i j k l m a => opv rfl rfl (by simp [go_sem, a.e 28 (j 3 rfl)]) rfl,
  fun f s W i j k l m a => opv rfl rfl (by simp [go_sem, a.e 28 (j 3 rfl)]) rfl,
  fun f s W i j k l m a => opv rfl rfl (by simp [go_sem, a.e 28 (j 3 rfl)]) rfl,
  fun f s W i j k l m a => opb rfl rfl (by simp [go_sem]),
  fun f s W i j k l m a => opb rfl rfl (by simp [go_sem]), trivial⟩ ?_
 intro f9 s9 W9 hB9 g9 hg9
 have fB9 := hB9.f fB7
 have z9 := hB9.below.size
 have b9_0 := hB9.b b7_0
 have b9_1 := hB9.b b7_1
 have b9_2 := hB9.b b7_2
 have b9_3 := hB9.b b7_3
 have b9_4 := hB9.b b7_4
 have b9_5 := hB9.b b7_5
 have b9_6 := hB9.b nb7
 obtain ⟨r9_7, br9_7⟩ := hB9.is 7
 have lr9_7 := hB9.lr 7 br9_7
 obtain ⟨r9_8, br9_8⟩ := hB9.is 8
 have lr9_8 := hB9.lr 8 br9_8
 have ne9_7_8 := hB9.nb 7 8
 have k9_0 := kt hg9 0 k8_0
 have k9_3 := kt hg9 3 k8_3
 have k9_4 := kt hg9 4 k8_4
 have k9_32 := kt hg9 32 (hB9.is 4)
 have k9_33 := kt hg9 33 (hB9.is 5)
 have k9_34 := kt hg9 34 (hB9.is 6)
 have k9_5 := kt hg9 5 r9_7
 have k9_6 := kt hg9 6 r9_8
 obtain ⟨W10, hW10⟩ : ∃ W', W' = W9.setRow (s9 7) #[.int .i64 616, .int .i64 628] := ⟨_, rfl⟩
 refine tail_skip (o := _) rfl ⟨rfl, rfl⟩ (run_seg hW10 (fr_ev k9_5) (fr_ev k9_32) br9_7 rfl rfl rfl rfl) ?_
 obtain ⟨fB10, nb10, ot10, z10⟩ := seg_facts hW10 fB9 br9_7 (by omega)
 clear hW10
 have b10_0 := ot10 _ _ (by omega) b9_0
 have b10_1 := ot10 _ _ (by omega) b9_1
 have b10_2 := ot10 _ _ (by omega) b9_2
 have b10_3 := ot10 _ _ (by omega) b9_3
 have b10_4 := ot10 _ _ (by omega) b9_4
 have b10_5 := ot10 _ _ (by omega) b9_5
 have b10_6 := ot10 _ _ (by omega) b9_6
 have b10_8 := ot10 _ _ (by omega) br9_8
 obtain ⟨W11, hW11⟩ : ∃ W', W' = W10.setRow (s9 8) #[.int .i64 4100, .int .i64 4240] := ⟨_, rfl⟩
 refine tail_skip (o := _) rfl ⟨rfl, rfl⟩ (run_seg hW11 (fr_ev k9_6) (fr_ev k9_33) b10_8 rfl rfl rfl rfl) ?_
 obtain ⟨fB11, nb11, ot11, z11⟩ := seg_facts hW11 fB10 b10_8 (by omega)
 clear hW11
 have b11_0 := ot11 _ _ (by omega) b10_0
 have b11_1 := ot11 _ _ (by omega) b10_1
 have b11_2 := ot11 _ _ (by omega) b10_2
 have b11_3 := ot11 _ _ (by omega) b10_3
 have b11_4 := ot11 _ _ (by omega) b10_4
 have b11_5 := ot11 _ _ (by omega) b10_5
 have b11_6 := ot11 _ _ (by omega) b10_6
 have b11_7 := ot11 _ _ (by omega) nb10
 refine tail_value (o := _) rfl rfl rfl (v := .int .i64 0) (by simp [go_sem, frv 51 k9_34]) ?_
 generalize hg12 : upd g9 7 (.int .i64 0) = g12
 have k12_0 := ku hg12 0 k9_0
 have k12_3 := ku hg12 3 k9_3
 have k12_4 := ku hg12 4 k9_4
 have k12_6 := ku hg12 6 k9_6
 have k12_7 := kt hg12 7 (upd_same _ _ _)
 refine wpOps_end ?_
 refine hK5 _ _ ?_
 refine wp_seq_k fun K6 hK6 => ?_
 refine region_dk 17 [(35, 0), (36, 1), (37, 2), (38, 3), (39, 4), (40, 5), (41, 6), (42, 7), (43, 8), (44, 9), (45, 10), (46, 11), (47, 12), (48, 13), (49, 14), (50, 15), (0, 16)] [[], [0], [0, 1], [0, 1, 2], [0, 1, 2, 3], [0, 1, 2, 3, 4], [0, 1, 2, 3, 4, 5], [0, 1, 2, 3, 4, 5, 6], [0, 1, 2, 3, 4, 5, 6], [0, 1, 2, 3, 4, 5, 6, 7, 8], [0, 1, 2, 3, 4, 5, 6, 7, 8, 9], [0, 1, 2, 3, 4, 5, 6, 7, 8, 9, 10], [0, 1, 2, 3, 4, 5, 6, 7, 8, 9, 10, 11], [0, 1, 2, 3, 4, 5, 6, 7, 8, 9, 10, 11], [0, 1, 2, 3, 4, 5, 6, 7, 8, 9, 10, 11, 12, 13], [0, 1, 2, 3, 4, 5, 6, 7, 8, 9, 10, 11, 12, 13, 14], [0, 1, 2, 3, 4, 5, 6, 7, 8, 9, 10, 11, 12, 13, 14, 15]] (rel [is (.int .i64 0),
   is (.bool true),
   is (.bool true),
   is (.int .i64 0),
   is (.bool true),
   is (.bool true),
   is (.bool true),
   is (.agg #[.int .i64 580, .int .i64 1]),
   is (.agg #[.int .i64 580, .int .i64 1]),
   is (.bool true),
   is (.bool true),
   is (.bool true),
   is (.agg #[.int .i64 4100, .int .i64 4240]),
   is (.agg #[.int .i64 4100, .int .i64 4240]),
   is (.bool true),
   is (.bool true),
   is (.bool true)])
  ⟨is_k, is_k, is_k, is_k, is_k, is_k, is_k, is_k, is_k, is_k, is_k, is_k, is_k, is_k, is_k, is_k, is_k, trivial⟩
  ⟨fun f s W i j k l m a => opv rfl rfl (by simp [go_sem, a.e 4 k12_4]) rfl,
  fun f s W i j k l m a => opv rfl rfl (by simp [go_sem, a.e 35 (j 0 rfl)]) rfl,
  fun f s W i j k l m a => opv rfl rfl (by simp [go_sem, a.e 36 (j 1 rfl)]) rfl,
  fun f s W i j k l m a => osure rfl rfl (a.says (d := 37) rfl rfl (j 2 rfl)) (gv (by simp [go_sem, a.e 7 k12_7]) rfl),
  fun f s W i j k l m a => osure rfl rfl (a.says (d := 37) rfl rfl (j 2 rfl)) (gv (by simp [go_sem, a.e 38 (j 3 rfl)]) rfl),
  fun f s W i j k l m a => opk (c := true) rfl rfl (fun h => absurd h (by decide)) (fun _ => by simp [go_sem, a.e 37 (j 2 rfl), a.e 39 (j 4 rfl)]),
  fun f s W i j k l m a => opv rfl rfl (by simp [go_sem, a.e 40 (j 5 rfl)]) rfl,
  fun f s W i j k l m a => osure rfl rfl (a.says (d := 41) rfl rfl (j 6 rfl)) (gv (by simp [go_sem, a.e 3 k12_3, cb b11_6 i 0, cb b11_6 i 1]) rfl),
  fun f s W i j k l m a => osure rfl rfl (a.says (d := 41) rfl rfl (j 6 rfl)) (gv (by simp [go_sem]) rfl),
  fun f s W i j k l m a => osure rfl rfl (a.says (d := 41) rfl rfl (j 6 rfl)) (gv (by simp [go_sem, a.e 42 (j 7 rfl), a.e 43 (j 8 rfl)]) rfl),
  fun f s W i j k l m a => opk (c := true) rfl rfl (fun h => absurd h (by decide)) (fun _ => by simp [go_sem, a.e 41 (j 6 rfl), a.e 44 (j 9 rfl)]),
  fun f s W i j k l m a => opv rfl rfl (by simp [go_sem, a.e 45 (j 10 rfl)]) rfl,
  fun f s W i j k l m a => osure rfl rfl (a.says (d := 46) rfl rfl (j 11 rfl)) (gv (by simp [go_sem, a.e 6 k12_6, cb nb11 i 0, cb nb11 i 1]) rfl),
  fun f s W i j k l m a => osure rfl rfl (a.says (d := 46) rfl rfl (j 11 rfl)) (gc (by simp [go_sem]) (pubSpan_any (4100) (4240) W)),
  fun f s W i j k l m a => osure rfl rfl (a.says (d := 46) rfl rfl (j 11 rfl)) (gv (by simp [go_sem, a.e 47 (j 12 rfl), a.e 48 (j 13 rfl)]) rfl),
  fun f s W i j k l m a => opk (c := true) rfl rfl (fun h => absurd h (by decide)) (fun _ => by simp [go_sem, a.e 46 (j 11 rfl), a.e 49 (j 14 rfl)]),
  fun f s W i j k l m a => opv rfl rfl (by simp [go_sem, a.e 50 (j 15 rfl)]) rfl, trivial⟩ ?_
 intro f13 s13 W13 hB13 g13 hg13
 have fB13 := hB13.f fB11
 have z13 := hB13.below.size
 have b13_0 := hB13.b b11_0
 have b13_1 := hB13.b b11_1
 have b13_2 := hB13.b b11_2
 have b13_3 := hB13.b b11_3
 have b13_4 := hB13.b b11_4
 have b13_5 := hB13.b b11_5
 have b13_6 := hB13.b b11_6
 have b13_7 := hB13.b b11_7
 have b13_8 := hB13.b nb11
 refine hK6 _ _ ?_
 have k13_0 := kt hg13 0 (hB13.is 16)
 refine wp_ret ?_
 refine leave_one (N := 51) (v := .bool true) (.inr rfl) Try.results18 rfl k13_0 ?_
 exact ⟨rfl, fB13⟩
end Go.Proofs.Ytiocklgakklkpaa
namespace Go.Proofs.Ytiocklgakklkpaa
open Go.RowKit
def docB : Bl := ⟨35, [304, 204, 304, 204], 208, [101, 101], [101, 101], 6, false⟩
theorem dv_size : checkErr docB = 0 ∧ acrossOf docB = 1051 ∧ alongOf docB = 410 := ⟨by kernel_rfl, by kernel_rfl, by kernel_rfl⟩
theorem dv_sort1 : sortI [200000, 300000, 201000] = [200000, 201000, 300000] := by simp [sortI, List.mergeSort, List.MergeSort.Internal.splitInTwo, List.merge]
theorem dv_sort2 : sortI [300000, 200000, 200000] = [200000, 200000, 300000] := by simp [sortI, List.mergeSort, List.MergeSort.Internal.splitInTwo, List.merge]
theorem dv_sort3 : sortI [301000, 201000, 202000] = [201000, 202000, 301000] := by simp [sortI, List.mergeSort, List.MergeSort.Internal.splitInTwo, List.merge]
theorem dv_holds : holdsErr docB (3000, 4000) [200, 300, 201] = 0 ∧ fitsOf docB 4000 [200, 300, 201] = false ∧ fitsOf docB 3000 [200, 300, 201] = true := by
  refine ⟨by kernel_rfl, ?_, ?_⟩
  · unfold fitsOf
    rw [show ([200, 300, 201] : List Int).map (1000 * ·) = [200000, 300000, 201000] from rfl, show roomOf docB 4000 = [300000, 200000, 200000] from by kernel_rfl, dv_sort1, dv_sort2]; rfl
  · unfold fitsOf
    rw [show ([200, 300, 201] : List Int).map (1000 * ·) = [200000, 300000, 201000] from rfl, show roomOf docB 3000 = [301000, 201000, 202000] from by kernel_rfl, dv_sort1, dv_sort3]; rfl
set_option maxRecDepth 100000 in
set_option maxHeartbeats 8000000 in
theorem pubScore_yes (w : World) :
  Calls Try.prog 19 #[] w (fun e w' => e = .returned (.bool true) ∧ Below w.heap.size w w') := by
 refine calls_fr Try.func19 Try.ntmps19 rfl rfl fun g hg => ?_
 clear hg
 have fB0 : Below w.heap.size w w := Below.refl _ _
 refine wp_seq_k fun K1 hK1 => ?_
 refine region_dk 1 [(0, 0)] [[]] (rel [is (.bool false)])
  ⟨is_k, trivial⟩
  ⟨fun f s W i j k l m a => opv rfl rfl (by simp [go_sem]) rfl, trivial⟩ ?_
 intro f1 s1 W1 hB1 g1 hg1
 have fB1 := hB1.f fB0
 have z1 := hB1.below.size
 refine hK1 _ _ ?_
 have k1_0 := kt hg1 0 (hB1.is 0)
 refine wp_seq_k fun K2 hK2 => ?_
 refine region_dk 5 [(9, 0), (10, 1), (11, 2), (12, 3), (1, 4)] [[], [], [], [0, 1, 2], [], [0, 1, 2, 3, 4]] (rel [row 0 4 #[.int .i64 304, .int .i64 204, .int .i64 304, .int .i64 204] 3,
   row 1 2 #[.int .i64 101, .int .i64 101] 3,
   row 2 2 #[.int .i64 101, .int .i64 101] 3,
   isS fun s => .agg #[.int .i64 35, .slice (some ⟨(s 0), 0, none⟩) (4) (4), .int .i64 208, .slice (some ⟨(s 1), 0, none⟩) (2) (2), .slice (some ⟨(s 2), 0, none⟩) (2) (2), .int .i64 6, .bool false],
   bx 4 #[.int .i64 0, .slice (none) (0) (0), .int .i64 0, .slice (none) (0) (0), .slice (none) (0) (0), .int .i64 0, .bool false] 37])
  ⟨row_k, row_k, row_k, isS_k fun s s' e => by rw [e 0 (by simp), e 1 (by simp), e 2 (by simp)], bx_k, trivial⟩
  ⟨fun f s W i j k l m a => opr rfl rfl (by simp [go_sem]),
  fun f s W i j k l m a => opr rfl rfl (by simp [go_sem]),
  fun f s W i j k l m a => opr rfl rfl (by simp [go_sem]),
  fun f s W i j k l m a => opv rfl rfl (by simp [go_sem, a.e 9 (j 0 rfl).1, a.e 10 (j 1 rfl).1, a.e 11 (j 2 rfl).1, upd]) rfl,
  fun f s W i j k l m a => opb rfl rfl (by simp [go_sem]), trivial⟩ ?_
 intro f2 s2 W2 hB2 g2 hg2
 have fB2 := hB2.f fB1
 have z2 := hB2.below.size
 obtain ⟨r2_0, br2_0⟩ := hB2.is 0
 have lr2_0 := hB2.lr 0 br2_0
 obtain ⟨r2_1, br2_1⟩ := hB2.is 1
 have lr2_1 := hB2.lr 1 br2_1
 obtain ⟨r2_2, br2_2⟩ := hB2.is 2
 have lr2_2 := hB2.lr 2 br2_2
 obtain ⟨r2_4, br2_4⟩ := hB2.is 4
 have lr2_4 := hB2.lr 4 br2_4
 have ne2_0_1 := hB2.nb 0 1
 have ne2_0_2 := hB2.nb 0 2
 have ne2_1_2 := hB2.nb 1 2
 have ne2_0_4 := hB2.nb 0 4
 have ne2_1_4 := hB2.nb 1 4
 have ne2_2_4 := hB2.nb 2 4
 have k2_0 := kt hg2 0 k1_0
 have k2_12 := kt hg2 12 (hB2.is 3)
 have k2_1 := kt hg2 1 r2_4
 obtain ⟨W3, hW3⟩ : ∃ W', W' = W2.setRow (s2 4) #[.int .i64 35, .slice (some ⟨(s2 0), 0, none⟩) (4) (4), .int .i64 208, .slice (some ⟨(s2 1), 0, none⟩) (2) (2), .slice (some ⟨(s2 2), 0, none⟩) (2) (2), .int .i64 6, .bool false] := ⟨_, rfl⟩
 refine tail_skip (o := _) rfl ⟨rfl, rfl⟩ (run_seg hW3 (fr_ev k2_1) (fr_ev k2_12) br2_4 rfl rfl rfl rfl) ?_
 obtain ⟨fB3, nb3, ot3, z3⟩ := seg_facts hW3 fB2 br2_4 (by omega)
 clear hW3
 have b3_0 := ot3 _ _ (by omega) br2_0
 have b3_1 := ot3 _ _ (by omega) br2_1
 have b3_2 := ot3 _ _ (by omega) br2_2
 refine wpOps_end ?_
 refine hK2 _ _ ?_
 refine wp_seq_k fun K3 hK3 => ?_
 refine region_dk 11 [(14, 0), (15, 1), (16, 2), (17, 3), (13, 4), (18, 5), (19, 6), (20, 7), (2, 8), (3, 9), (4, 10)] [[], [], [], [0, 1, 2], [0, 1, 2, 3], [0, 1, 2, 3, 4], [0, 1, 2, 3, 4], [0, 1, 2, 3, 4], [0, 1, 2, 3, 4, 5], [0, 1, 2, 3, 4, 5, 6, 8], [0, 1, 2, 3, 4, 5, 6, 7, 8, 9]] (rel [is (.agg #[.int .i64 35, .slice (some ⟨(s2 0), 0, none⟩) (4) (4), .int .i64 208, .slice (some ⟨(s2 1), 0, none⟩) (2) (2), .slice (some ⟨(s2 2), 0, none⟩) (2) (2), .int .i64 6, .bool false]),
   is (.agg #[.int .i64 3000, .int .i64 4000]),
   row 2 3 #[.int .i64 200, .int .i64 300, .int .i64 201] 3,
   is (.tuple #[.bool false, .bool true, .int .i64 0]),
   is (.tuple #[.bool false, .bool true, .int .i64 0]),
   is (.bool false),
   is (.bool true),
   is (.int .i64 0),
   is (.bool false),
   is (.bool true),
   is (.int .i64 0)])
  ⟨is_k, is_k, row_k, is_k, is_k, is_k, is_k, is_k, is_k, is_k, is_k, trivial⟩
  ⟨fun f s W i j k l m a => opv rfl rfl (by simp [go_sem, a.e 1 k2_1, cb nb3 i 0, cb nb3 i 1, cb nb3 i 2, cb nb3 i 3, cb nb3 i 4, cb nb3 i 5, cb nb3 i 6]) rfl,
  fun f s W i j k l m a => opc rfl rfl (by simp [go_sem]) (pubSpan_any (3000) (4000) W),
  fun f s W i j k l m a => opr rfl rfl (by simp [go_sem]),
  fun f s W i j k l m a => opDo_call (args := #[.agg #[.int .i64 35, .slice (some ⟨(s2 0), 0, none⟩) (4) (4), .int .i64 208, .slice (some ⟨(s2 1), 0, none⟩) (2) (2), .slice (some ⟨(s2 2), 0, none⟩) (2) (2), .int .i64 6, .bool false], .agg #[.int .i64 3000, .int .i64 4000], .slice (some ⟨(s 2), 0, none⟩) (3) (3)]) rfl rfl (by simp [go_sem, a.e 14 (j 0 rfl), a.e 15 (j 1 rfl), a.e 16 (j 2 rfl).1]) (holds_any _ docB 3000 4000 _ _ _ [200, 300, 201] W ⟨_, _, _, _, _, _, _, _, _, rfl, ii_block (xs := [304, 204, 304, 204]) (blk_below b3_0 i) rfl rfl, ii_block (xs := [101, 101]) (blk_below b3_1 i) rfl rfl, ii_block (xs := [101, 101]) (blk_below b3_2 i) rfl rfl⟩ (ii_block (xs := [200, 300, 201]) (j 2 rfl).2 rfl rfl)) ((fun e W' h => ⟨_, h.1, h.2, by show (Value.tuple #[.bool (if holdsErr docB (3000, 4000) [200, 300, 201] = 0 then fitsOf docB 4000 [200, 300, 201] else false), .bool (if holdsErr docB (3000, 4000) [200, 300, 201] = 0 then fitsOf docB 3000 [200, 300, 201] else false), .int .i64 (holdsErr docB (3000, 4000) [200, 300, 201])]) = _; rw [dv_holds.1, if_pos rfl, if_pos rfl, dv_holds.2.1, dv_holds.2.2]⟩)),
  fun f s W i j k l m a => opv rfl rfl (by simp [go_sem, a.e 17 (j 3 rfl)]) rfl,
  fun f s W i j k l m a => opv rfl rfl (by simp [go_sem, a.e 13 (j 4 rfl)]) rfl,
  fun f s W i j k l m a => opv rfl rfl (by simp [go_sem, a.e 13 (j 4 rfl)]) rfl,
  fun f s W i j k l m a => opv rfl rfl (by simp [go_sem, a.e 13 (j 4 rfl)]) rfl,
  fun f s W i j k l m a => opv rfl rfl (by simp [go_sem, a.e 18 (j 5 rfl)]) rfl,
  fun f s W i j k l m a => opv rfl rfl (by simp [go_sem, a.e 19 (j 6 rfl)]) rfl,
  fun f s W i j k l m a => opv rfl rfl (by simp [go_sem, a.e 20 (j 7 rfl)]) rfl, trivial⟩ ?_
 intro f4 s4 W4 hB4 g4 hg4
 have fB4 := hB4.f fB3
 have z4 := hB4.below.size
 have b4_0 := hB4.b b3_0
 have b4_1 := hB4.b b3_1
 have b4_2 := hB4.b b3_2
 have b4_3 := hB4.b nb3
 obtain ⟨r4_2, br4_2⟩ := hB4.is 2
 have lr4_2 := hB4.lr 2 br4_2
 refine hK3 _ _ ?_
 have k4_0 := kt hg4 0 k2_0
 have k4_1 := kt hg4 1 k2_1
 have k4_2 := kt hg4 2 (hB4.is 8)
 have k4_3 := kt hg4 3 (hB4.is 9)
 have k4_4 := kt hg4 4 (hB4.is 10)
 refine wp_seq_k fun K4 hK4 => ?_
 refine region_dk 11 [(22, 0), (23, 1), (21, 2), (24, 3), (25, 4), (26, 5), (27, 6), (5, 7), (6, 8), (7, 9), (8, 10)] [[], [0], [0, 1], [0, 1, 2], [0, 1, 2], [0, 1, 2], [0, 1, 2], [0, 1, 2, 3], [0, 1, 2, 3, 4, 7], [0, 1, 2, 3, 4, 5, 7, 8], [0, 1, 2, 3, 4, 5, 6, 7, 8, 9]] (rel [is (.agg #[.int .i64 35, .slice (some ⟨(s2 0), 0, none⟩) (4) (4), .int .i64 208, .slice (some ⟨(s2 1), 0, none⟩) (2) (2), .slice (some ⟨(s2 2), 0, none⟩) (2) (2), .int .i64 6, .bool false]),
   is (.tuple #[.int .i64 1051, .int .i64 410, .int .i64 430910, .int .i64 0]),
   is (.tuple #[.int .i64 1051, .int .i64 410, .int .i64 430910, .int .i64 0]),
   is (.int .i64 1051),
   is (.int .i64 410),
   is (.int .i64 430910),
   is (.int .i64 0),
   is (.int .i64 1051),
   is (.int .i64 410),
   is (.int .i64 430910),
   is (.int .i64 0)])
  ⟨is_k, is_k, is_k, is_k, is_k, is_k, is_k, is_k, is_k, is_k, is_k, trivial⟩
  ⟨fun f s W i j k l m a => opv rfl rfl (by simp [go_sem, a.e 1 k4_1, cb b4_3 i 0, cb b4_3 i 1, cb b4_3 i 2, cb b4_3 i 3, cb b4_3 i 4, cb b4_3 i 5, cb b4_3 i 6]) rfl,
  fun f s W i j k l m a => opDo_call (args := #[.agg #[.int .i64 35, .slice (some ⟨(s2 0), 0, none⟩) (4) (4), .int .i64 208, .slice (some ⟨(s2 1), 0, none⟩) (2) (2), .slice (some ⟨(s2 2), 0, none⟩) (2) (2), .int .i64 6, .bool false]]) rfl rfl (by simp [go_sem, a.e 22 (j 0 rfl)]) (size_any _ docB W ⟨_, _, _, _, _, _, _, _, _, rfl, ii_block (xs := [304, 204, 304, 204]) (blk_below b4_0 i) rfl rfl, ii_block (xs := [101, 101]) (blk_below b4_1 i) rfl rfl, ii_block (xs := [101, 101]) (blk_below b4_2 i) rfl rfl⟩) ((fun e W' h => ⟨_, h.1, h.2, by rw [if_pos dv_size.1, dv_size.2.1, dv_size.2.2]; rfl⟩)),
  fun f s W i j k l m a => opv rfl rfl (by simp [go_sem, a.e 23 (j 1 rfl)]) rfl,
  fun f s W i j k l m a => opv rfl rfl (by simp [go_sem, a.e 21 (j 2 rfl)]) rfl,
  fun f s W i j k l m a => opv rfl rfl (by simp [go_sem, a.e 21 (j 2 rfl)]) rfl,
  fun f s W i j k l m a => opv rfl rfl (by simp [go_sem, a.e 21 (j 2 rfl)]) rfl,
  fun f s W i j k l m a => opv rfl rfl (by simp [go_sem, a.e 21 (j 2 rfl)]) rfl,
  fun f s W i j k l m a => opv rfl rfl (by simp [go_sem, a.e 24 (j 3 rfl)]) rfl,
  fun f s W i j k l m a => opv rfl rfl (by simp [go_sem, a.e 25 (j 4 rfl)]) rfl,
  fun f s W i j k l m a => opv rfl rfl (by simp [go_sem, a.e 26 (j 5 rfl)]) rfl,
  fun f s W i j k l m a => opv rfl rfl (by simp [go_sem, a.e 27 (j 6 rfl)]) rfl, trivial⟩ ?_
 intro f5 s5 W5 hB5 g5 hg5
 have fB5 := hB5.f fB4
 have z5 := hB5.below.size
 have b5_0 := hB5.b b4_0
 have b5_1 := hB5.b b4_1
 have b5_2 := hB5.b b4_2
 have b5_3 := hB5.b b4_3
 have b5_4 := hB5.b br4_2
 refine hK4 _ _ ?_
 have k5_0 := kt hg5 0 k4_0
 have k5_2 := kt hg5 2 k4_2
 have k5_3 := kt hg5 3 k4_3
 have k5_4 := kt hg5 4 k4_4
 have k5_6 := kt hg5 6 (hB5.is 8)
 have k5_8 := kt hg5 8 (hB5.is 10)
 refine wp_seq_k fun K5 hK5 => ?_
 refine region_dk 18 [(28, 0), (29, 1), (30, 2), (31, 3), (32, 4), (33, 5), (34, 6), (35, 7), (36, 8), (37, 9), (38, 10), (39, 11), (40, 12), (41, 13), (42, 14), (43, 15), (44, 16), (0, 17)] [[], [0], [0, 1], [0, 1, 2], [0, 1, 2, 3], [0, 1, 2, 3, 4], [0, 1, 2, 3, 4, 5], [0, 1, 2, 3, 4, 5, 6], [0, 1, 2, 3, 4, 5, 6, 7], [0, 1, 2, 3, 4, 5, 6, 7, 8], [0, 1, 2, 3, 4, 5, 6, 7, 8, 9], [0, 1, 2, 3, 4, 5, 6, 7, 8, 9, 10], [0, 1, 2, 3, 4, 5, 6, 7, 8, 9, 10, 11], [0, 1, 2, 3, 4, 5, 6, 7, 8, 9, 10, 11, 12], [0, 1, 2, 3, 4, 5, 6, 7, 8, 9, 10, 11, 12, 13], [0, 1, 2, 3, 4, 5, 6, 7, 8, 9, 10, 11, 12, 13, 14], [0, 1, 2, 3, 4, 5, 6, 7, 8, 9, 10, 11, 12, 13, 14, 15], [0, 1, 2, 3, 4, 5, 6, 7, 8, 9, 10, 11, 12, 13, 14, 15, 16]] (rel [is (.int .i64 0),
   is (.bool true),
   is (.bool true),
   is (.int .i64 0),
   is (.bool true),
   is (.bool true),
   is (.bool true),
   is (.bool false),
   is (.bool true),
   is (.bool true),
   is (.bool true),
   is (.bool true),
   is (.bool true),
   is (.bool true),
   is (.int .i64 410),
   is (.bool true),
   is (.bool true),
   is (.bool true)])
  ⟨is_k, is_k, is_k, is_k, is_k, is_k, is_k, is_k, is_k, is_k, is_k, is_k, is_k, is_k, is_k, is_k, is_k, is_k, trivial⟩
  ⟨fun f s W i j k l m a => opv rfl rfl (by simp [go_sem, a.e 4 k5_4]) rfl,
  fun f s W i j k l m a => opv rfl rfl (by simp [go_sem, a.e 28 (j 0 rfl)]) rfl,
  fun f s W i j k l m a => opv rfl rfl (by simp [go_sem, a.e 29 (j 1 rfl)]) rfl,
  fun f s W i j k l m a => osure rfl rfl (a.says (d := 30) rfl rfl (j 2 rfl)) (gv (by simp [go_sem, a.e 8 k5_8]) rfl),
  fun f s W i j k l m a => osure rfl rfl (a.says (d := 30) rfl rfl (j 2 rfl)) (gv (by simp [go_sem, a.e 31 (j 3 rfl)]) rfl),
  fun f s W i j k l m a => opk (c := true) rfl rfl (fun h => absurd h (by decide)) (fun _ => by simp [go_sem, a.e 30 (j 2 rfl), a.e 32 (j 4 rfl)]),
  fun f s W i j k l m a => opv rfl rfl (by simp [go_sem, a.e 33 (j 5 rfl)]) rfl,
  fun f s W i j k l m a => osure rfl rfl (a.says (d := 34) rfl rfl (j 6 rfl)) (gv (by simp [go_sem, a.e 2 k5_2]) rfl),
  fun f s W i j k l m a => osure rfl rfl (a.says (d := 34) rfl rfl (j 6 rfl)) (gv (by simp [go_sem, a.e 35 (j 7 rfl)]) rfl),
  fun f s W i j k l m a => opk (c := true) rfl rfl (fun h => absurd h (by decide)) (fun _ => by simp [go_sem, a.e 34 (j 6 rfl), a.e 36 (j 8 rfl)]),
  fun f s W i j k l m a => opv rfl rfl (by simp [go_sem, a.e 37 (j 9 rfl)]) rfl,
  fun f s W i j k l m a => osure rfl rfl (a.says (d := 38) rfl rfl (j 10 rfl)) (gv (by simp [go_sem, a.e 3 k5_3]) rfl),
  fun f s W i j k l m a => opk (c := true) rfl rfl (fun h => absurd h (by decide)) (fun _ => by simp [go_sem, a.e 38 (j 10 rfl), a.e 39 (j 11 rfl)]),
  fun f s W i j k l m a => opv rfl rfl (by simp [go_sem, a.e 40 (j 12 rfl)]) rfl,
  fun f s W i j k l m a => osure rfl rfl (a.says (d := 41) rfl rfl (j 13 rfl)) (gv (by simp [go_sem, a.e 6 k5_6]) rfl),
  fun f s W i j k l m a => osure rfl rfl (a.says (d := 41) rfl rfl (j 13 rfl)) (gv (by simp [go_sem, a.e 42 (j 14 rfl)]) rfl),
  fun f s W i j k l m a => opk (c := true) rfl rfl (fun h => absurd h (by decide)) (fun _ => by simp [go_sem, a.e 41 (j 13 rfl), a.e 43 (j 15 rfl)]),
  fun f s W i j k l m a => opv rfl rfl (by simp [go_sem, a.e 44 (j 16 rfl)]) rfl, trivial⟩ ?_
 intro f6 s6 W6 hB6 g6 hg6
 have fB6 := hB6.f fB5
 have z6 := hB6.below.size
 have b6_0 := hB6.b b5_0
 have b6_1 := hB6.b b5_1
 have b6_2 := hB6.b b5_2
 have b6_3 := hB6.b b5_3
 have b6_4 := hB6.b b5_4
 refine hK5 _ _ ?_
 have k6_0 := kt hg6 0 (hB6.is 17)
 refine wp_ret ?_
 refine leave_one (N := 45) (v := .bool true) (.inr rfl) Try.results19 rfl k6_0 ?_
 exact ⟨rfl, fB6⟩
end Go.Proofs.Ytiocklgakklkpaa
namespace Go.Proofs.Ytiocklgakklkpaa
open Go.RowKit
/-- A blank in bytes, with calipers, and how wide the spans of a wish are around it. -/
structure Sh where
  x0 : Int
  x1 : Int
  x2 : Int
  x3 : Int
  xh : Int
  y0 : Int
  y1 : Int
  y2 : Int
  y3 : Int
  xo : Bool
  ca : Int
  cb : Int
  v0 : Int
  v1 : Int
  v2 : Int
  v3 : Int
  v4 : Int
end Go.Proofs.Ytiocklgakklkpaa
namespace Go.Proofs.Ytiocklgakklkpaa
open Go.RowKit
end Go.Proofs.Ytiocklgakklkpaa
namespace Go.Proofs.Ytiocklgakklkpaa
open Go.RowKit
end Go.Proofs.Ytiocklgakklkpaa
namespace Go.Proofs.Ytiocklgakklkpaa
open Go.RowKit
end Go.Proofs.Ytiocklgakklkpaa
namespace Go.Proofs.Ytiocklgakklkpaa
open Go.RowKit
end Go.Proofs.Ytiocklgakklkpaa
namespace Go.Proofs.Ytiocklgakklkpaa
open Go.RowKit
def microsOf (b : Bl) (c : Int) : List Int :=
  let p := fun k => 1000 * b.panels.getD k 0 - c
  [p 0, p 1, p 2, p 3, if b.isOpen = true then 1000 * b.height - 2 * c + c else 1000 * b.height - 2 * c, p 1 - 2000 * b.top.getD 0 0, p 0 - 2000 * b.top.getD 1 0, p 1 - 2000 * b.bottom.getD 0 0, p 0 - 2000 * b.bottom.getD 1 0]
end Go.Proofs.Ytiocklgakklkpaa
namespace Go.Proofs.Ytiocklgakklkpaa
open Go.RowKit
end Go.Proofs.Ytiocklgakklkpaa
namespace Go.Proofs.Ytiocklgakklkpaa
open Go.RowKit
end Go.Proofs.Ytiocklgakklkpaa
namespace Go.Proofs.Ytiocklgakklkpaa
open Go.RowKit
end Go.Proofs.Ytiocklgakklkpaa
namespace Go.Proofs.Ytiocklgakklkpaa
open Go.RowKit Go.Shelf
attribute [local go_sem] Oper.semAt_some
end Go.Proofs.Ytiocklgakklkpaa
namespace Go.Proofs.Ytiocklgakklkpaa
open Go.RowKit
end Go.Proofs.Ytiocklgakklkpaa
namespace Go.Proofs.Ytiocklgakklkpaa
open Go.RowKit Go.Shelf
attribute [local go_sem] Oper.semAt_some
end Go.Proofs.Ytiocklgakklkpaa
namespace Go.Proofs.Ytiocklgakklkpaa
open Go.RowKit
end Go.Proofs.Ytiocklgakklkpaa
namespace Go.Proofs.Ytiocklgakklkpaa
open Go.RowKit
end Go.Proofs.Ytiocklgakklkpaa
namespace Go.Proofs.Ytiocklgakklkpaa
open Go.RowKit
end Go.Proofs.Ytiocklgakklkpaa
namespace Go.Proofs.Ytiocklgakklkpaa
open Go.RowKit
end Go.Proofs.Ytiocklgakklkpaa
namespace Go.Proofs.Ytiocklgakklkpaa
open Go.RowKit
end Go.Proofs.Ytiocklgakklkpaa
namespace Go.Proofs.Ytiocklgakklkpaa
open Go.RowKit
end Go.Proofs.Ytiocklgakklkpaa
namespace Go.Proofs.Ytiocklgakklkpaa
open Go.RowKit
end Go.Proofs.Ytiocklgakklkpaa
namespace Go.Proofs.Ytiocklgakklkpaa
open Go.RowKit
end Go.Proofs.Ytiocklgakklkpaa
namespace Go.Proofs.Ytiocklgakklkpaa
open Go.RowKit
end Go.Proofs.Ytiocklgakklkpaa
namespace Go.Proofs.Ytiocklgakklkpaa
open Go.RowKit
end Go.Proofs.Ytiocklgakklkpaa
namespace Go.Proofs.Ytiocklgakklkpaa
end Go.Proofs.Ytiocklgakklkpaa
namespace Go.Proofs.Ytiocklgakklkpaa
open Go.RowKit
end Go.Proofs.Ytiocklgakklkpaa
namespace Go.Proofs.Ytiocklgakklkpaa
theorem good_nums {b : Bl} (h : checkErr b = 0) : (b.panels.length = 4 ∧ b.top.length = 2 ∧ b.bottom.length = 2) ∧ (0 ≤ b.tab ∧ b.tab ≤ 100) ∧ (0 ≤ b.slot ∧ b.slot ≤ 20) ∧ (1 ≤ b.height ∧ b.height ≤ 3000) ∧
    ((1 ≤ b.panels.getD 0 0 ∧ b.panels.getD 0 0 ≤ 3000) ∧ (1 ≤ b.panels.getD 1 0 ∧ b.panels.getD 1 0 ≤ 3000) ∧ (1 ≤ b.panels.getD 2 0 ∧ b.panels.getD 2 0 ≤ 3000) ∧ (1 ≤ b.panels.getD 3 0 ∧ b.panels.getD 3 0 ≤ 3000)) ∧
    ((0 ≤ b.top.getD 0 0 ∧ b.top.getD 0 0 ≤ 3000) ∧ (0 ≤ b.top.getD 1 0 ∧ b.top.getD 1 0 ≤ 3000) ∧ (0 ≤ b.bottom.getD 0 0 ∧ b.bottom.getD 0 0 ≤ 3000) ∧ (0 ≤ b.bottom.getD 1 0 ∧ b.bottom.getD 1 0 ≤ 3000)) := by
  obtain ⟨hF, ht, hs, hp, hh, -⟩ := fine_of_check h
  obtain ⟨p0, p1, p2, p3, t0, t1, u0, u1, e1, e2, e3, r0, r1, r2, r3, s0, s1, q0, q1, rh⟩ := hF
  rw [e1] at hp
  have a0 := hp p0 (by simp); have a1 := hp p1 (by simp); have a2 := hp p2 (by simp); have a3 := hp p3 (by simp)
  rw [e1, e2, e3]
  simp only [List.length_cons, List.length_nil, List.getD_cons_zero, List.getD_cons_succ, true_and]
  refine ⟨ht, hs, hh, ⟨a0, a1, a2, a3⟩, s0, s1, q0, q1⟩
end Go.Proofs.Ytiocklgakklkpaa
namespace Go.Proofs.Ytiocklgakklkpaa
open Go.RowKit
theorem pp_get {W : World} {aa : Option Addr} {a o n c : Nat} {xs : List Sp} (h : Pp W aa n c xs) (ha : aa = some ⟨a, o, none⟩) {i : Nat} (hi : i < xs.length) :
    W.cell? ⟨a, o + i * 2, none⟩ = some (.int .i64 (xs.getD i (0, 0)).1) ∧ W.cell? ⟨a, o + i * 2 + 1, none⟩ = some (.int .i64 (xs.getD i (0, 0)).2) := by
  subst ha
  obtain ⟨b, off, e', -, hc⟩ := h.at (by omega)
  cases e'
  exact hc i hi
theorem isPp_of {W : World} {a : Option Addr} {n c : Nat} {l : List Sp} (h : Pp W a n c l) : IsPp l (.slice a n c) W := by
  obtain rfl := h.1
  exact ⟨a, c, rfl, h⟩
theorem Pp.lim {W : World} {a : Option Addr} {n c : Nat} {xs : List Sp} (h : Pp W a n c xs) : ∀ g o, a = some ⟨g, o, none⟩ → xs ≠ [] → g < W.heap.size := by
  intro g o e hne
  obtain ⟨b, off, e', hl, -⟩ := h.at (List.length_pos_iff.2 hne)
  rw [e] at e'
  cases e'
  exact hl
theorem Pp.at' {W : World} {a : Option Addr} {n c : Nat} {xs : List Sp} (h : Pp W a n c xs) (hne : 0 < xs.length) : ∃ b off, a = some ⟨b, off, none⟩ := by
  obtain ⟨b, off, e, -⟩ := h.at hne
  exact ⟨b, off, e⟩
end Go.Proofs.Ytiocklgakklkpaa
namespace Go.Proofs.Ytiocklgakklkpaa
open Go.RowKit
end Go.Proofs.Ytiocklgakklkpaa
namespace Go.Proofs.Ytiocklgakklkpaa
end Go.Proofs.Ytiocklgakklkpaa
namespace Go.Proofs.Ytiocklgakklkpaa
open Go.RowKit
/-- A number of a list of pairs. -/
def nthP (L : List (Int × Int)) (i : Nat) : Int × Int := L.getD i (0, 0)
/-- A blank with four panels and two flaps at either end, as its numbers say. -/
theorem check_ok {tab p0 p1 p2 p3 hh t0 t1 u0 u1 sl : Int} {op : Bool} (gt : 0 ≤ tab ∧ tab ≤ 100) (gs : 0 ≤ sl ∧ sl ≤ 20) (gh : 1 ≤ hh ∧ hh ≤ 3000) (g0 : 1 ≤ p0 ∧ p0 ≤ 3000) (g1 : 1 ≤ p1 ∧ p1 ≤ 3000) (g2 : 1 ≤ p2 ∧ p2 ≤ 3000) (g3 : 1 ≤ p3 ∧ p3 ≤ 3000)
    (t0' : 0 ≤ t0 ∧ t0 ≤ 3000) (t1' : 0 ≤ t1 ∧ t1 ≤ 3000) (u0' : 0 ≤ u0 ∧ u0 ≤ 3000) (u1' : 0 ≤ u1 ∧ u1 ≤ 3000) (ho : op = true → t0 = 0 ∧ t1 = 0) : checkErr ⟨tab, [p0, p1, p2, p3], hh, [t0, t1], [u0, u1], sl, op⟩ = 0 := by
  unfold checkErr
  rw [if_neg, if_neg, if_neg]
  · simp only [Bool.and_eq_true, Bool.not_eq_true', not_and, Bool.not_eq_false, within]
    intro h
    obtain ⟨rfl, rfl⟩ := ho h
    decide
  · simp [numsOk, within, areLong]; omega
  · simp [lensOk]
theorem micros_le (b : Bl) {lo hi : Int} (h : lo ≤ hi) (k : Nat) : (microsOf b hi).getD k 0 ≤ (microsOf b lo).getD k 0 := by
  unfold microsOf
  match k with
  | 0 => simp only [List.getD_cons_zero]; omega
  | 1 => simp only [List.getD_cons_zero, List.getD_cons_succ]; omega
  | 2 => simp only [List.getD_cons_zero, List.getD_cons_succ]; omega
  | 3 => simp only [List.getD_cons_zero, List.getD_cons_succ]; omega
  | 4 => simp only [List.getD_cons_zero, List.getD_cons_succ]; split <;> omega
  | 5 => simp only [List.getD_cons_zero, List.getD_cons_succ]; omega
  | 6 => simp only [List.getD_cons_zero, List.getD_cons_succ]; omega
  | 7 => simp only [List.getD_cons_zero, List.getD_cons_succ]; omega
  | 8 => simp only [List.getD_cons_zero, List.getD_cons_succ]; omega
  | n + 9 => simp [List.getD_eq_getElem?_getD]
end Go.Proofs.Ytiocklgakklkpaa
namespace Go.Proofs.Ytiocklgakklkpaa
open Go.RowKit
end Go.Proofs.Ytiocklgakklkpaa
namespace Go.Proofs.Ytiocklgakklkpaa
open Go.RowKit
end Go.Proofs.Ytiocklgakklkpaa
namespace Go.Proofs.Ytiocklgakklkpaa
open Go.RowKit
theorem pp_nth {W : World} {aa : Option Addr} {a o n c : Nat} {xs : List Sp} (h : Pp W aa n c xs) (ha : aa = some ⟨a, o, none⟩) {i : Nat} (hi : i < xs.length) :
    W.cell? ⟨a, o + i * 2, none⟩ = some (.int .i64 (nthP xs i).1) ∧ W.cell? ⟨a, o + i * 2 + 1, none⟩ = some (.int .i64 (nthP xs i).2) := pp_get h ha hi
def IsPpP (L : List Sp) (er : Int) (w : World) (e : Ending) (w' : World) : Prop := ∃ x, e = .returned (.tuple #[x, .int .i64 er]) ∧ IsPp L x w' ∧ Below w.heap.size w w'
end Go.Proofs.Ytiocklgakklkpaa
