/- Part of the proof: what the claim leans on. -/
import Derived.Test.YtcgccflcjejlhaaDAT
import Derived.Test.YtcgccflcjejlhaaDAS
import Derived.Test.YtcgccflcjejlhaaDAB
set_option linter.unusedSimpArgs false
set_option linter.unusedVariables false
namespace Go.Proofs.Ytcgccflcjejlhaa
open Go.RowKit
/-- The document's example of a shop. -/
def chX : List (List Int) := [[0, 10], [20, 0]]
def jsX (i : Nat) : Fj := if i = 0 then ⟨0, 0, 100, [30, 40]⟩ else if i = 1 then ⟨1, 0, 90, [20, 20]⟩ else ⟨0, 15, 130, [10, 0]⟩
def stX : Fs := ⟨0, 0, 0⟩
def odX (i : Nat) : Nat := if i = 0 then 1 else if i = 1 then 0 else 2
theorem flX : FlOk 2 0 3 chX stX jsX := by
  have hj : ∀ i, jsX i = ⟨0, 0, 100, [30, 40]⟩ ∨ jsX i = ⟨1, 0, 90, [20, 20]⟩ ∨ jsX i = ⟨0, 15, 130, [10, 0]⟩ := fun i => by
    unfold jsX; split
    · exact .inl rfl
    · split
      · exact .inr (.inl rfl)
      · exact .inr (.inr rfl)
  refine ⟨by decide, by decide, by decide, rfl, fun i hi => ?_, fun h => absurd h (by decide), by decide, fun i => ?_, fun i => ?_, fun i => ?_⟩
  · match i, hi with
    | 0, _ => exact ⟨rfl, by decide⟩
    | 1, _ => exact ⟨rfl, by decide⟩
  · rcases hj i with h | h | h <;> rw [h] <;> exact ⟨by decide, by decide, by decide⟩
  · rcases hj i with h | h | h <;> rw [h] <;> decide
  · rcases hj i with h | h | h <;> rw [h] <;> rfl
theorem fl_ii2 {W : World} {g : Nat} {x y : Int} {T : TypeId} (h : W.heap[g]? = some (.cells #[.int .i64 x, .int .i64 y] T (0, 0))) : Ii W (some ⟨g, 0, none⟩) 2 2 [x, y] := ii_block (xs := [x, y]) h rfl rfl
theorem flR_X {W : World} {b9 g7 g8 bj g1 g2 g3 : Nat} {T1 T2 T3 T4 T5 T6 T7 : TypeId} (hc : W.heap[b9]? = some (.cells #[.slice (some ⟨g7, 0, none⟩) 2 2, .slice (some ⟨g8, 0, none⟩) 2 2] T1 (0, 0))) (h7 : W.heap[g7]? = some (.cells #[.int .i64 0, .int .i64 10] T2 (0, 0))) (h8 : W.heap[g8]? = some (.cells #[.int .i64 20, .int .i64 0] T3 (0, 0)))
    (hj : W.heap[bj]? = some (.cells #[.int .i64 0, .int .i64 0, .int .i64 100, .slice (some ⟨g1, 0, none⟩) 2 2, .int .i64 1, .int .i64 0, .int .i64 90, .slice (some ⟨g2, 0, none⟩) 2 2, .int .i64 0, .int .i64 15, .int .i64 130, .slice (some ⟨g3, 0, none⟩) 2 2] T4 (0, 0))) (h1 : W.heap[g1]? = some (.cells #[.int .i64 30, .int .i64 40] T5 (0, 0))) (h2 : W.heap[g2]? = some (.cells #[.int .i64 20, .int .i64 20] T6 (0, 0))) (h3 : W.heap[g3]? = some (.cells #[.int .i64 10, .int .i64 0] T7 (0, 0))) :
    FlR 2 0 3 chX jsX stX b9 0 0 0 bj 0 none (fun k => if k = 0 then some ⟨g7, 0, none⟩ else some ⟨g8, 0, none⟩) (fun _ => 2) (fun k => if k = 0 then some ⟨g1, 0, none⟩ else if k = 1 then some ⟨g2, 0, none⟩ else some ⟨g3, 0, none⟩) (fun _ => 2) W := by
  refine ⟨⟨lt_of_blk hc, fun i hi => ?_⟩, fun h => absurd h (by decide), ⟨lt_of_blk hj, fun i hi => ?_⟩⟩
  · match i, hi with
    | 0, _ => exact ⟨(Joins.cell_of_block hc 0).trans rfl, fl_ii2 h7⟩
    | 1, _ => exact ⟨(Joins.cell_of_block hc 1).trans rfl, fl_ii2 h8⟩
  · match i, hi with
    | 0, _ => exact ⟨(Joins.cell_of_block hj 0).trans rfl, (Joins.cell_of_block hj 1).trans rfl, (Joins.cell_of_block hj 2).trans rfl, (Joins.cell_of_block hj 3).trans rfl, fl_ii2 h1⟩
    | 1, _ => exact ⟨(Joins.cell_of_block hj 4).trans rfl, (Joins.cell_of_block hj 5).trans rfl, (Joins.cell_of_block hj 6).trans rfl, (Joins.cell_of_block hj 7).trans rfl, fl_ii2 h2⟩
    | 2, _ => exact ⟨(Joins.cell_of_block hj 8).trans rfl, (Joins.cell_of_block hj 9).trans rfl, (Joins.cell_of_block hj 10).trans rfl, (Joins.cell_of_block hj 11).trans rfl, fl_ii2 h3⟩
theorem odX_ok : (∀ i, i < 3 → elT [1, 0, 2] i = ((odX i : Nat) : Int) ∧ odX i < 3) ∧ ([1, 0, 2].mergeSort fun x y : Int => decide (x ≤ y)) = (List.range 3).map (fun i : Nat => (i : Int)) ∧ ∀ k, k < 3 → ∃ j, j < 3 ∧ odX j = k := by
  refine ⟨fun i hi => ?_, by simp [List.mergeSort, List.MergeSort.Internal.splitInTwo, List.merge, List.range, List.range.loop], fun k hk => ?_⟩
  · match i, hi with
    | 0, _ => exact ⟨rfl, by decide⟩
    | 1, _ => exact ⟨rfl, by decide⟩
    | 2, _ => exact ⟨rfl, by decide⟩
  · match k, hk with
    | 0, _ => exact ⟨1, by decide, rfl⟩
    | 1, _ => exact ⟨0, by decide, rfl⟩
    | 2, _ => exact ⟨2, by decide, rfl⟩
theorem enX : (runF (freeK 0 stX) (chK chX) 2 jsX odX 3).en 0 = 110 ∧ (runF (freeK 0 stX) (chK chX) 2 jsX odX 3).en 1 = 40 ∧ (runF (freeK 0 stX) (chK chX) 2 jsX odX 3).en 2 = 80 := ⟨by kernel_rfl, by kernel_rfl, by kernel_rfl⟩
set_option maxRecDepth 100000 in
set_option maxHeartbeats 8000000 in
theorem armFlow_yes (w : World) :
  Calls Try.prog 10 #[] w (fun e w' => e = .returned (.bool true) ∧ Below w.heap.size w w') := by
 refine calls_fr Try.func10 Try.ntmps10 rfl rfl fun g hg => ?_
 clear hg
 have fB0 : Below w.heap.size w w := Below.refl _ _
 refine wp_seq_k fun K1 hK1 => ?_
 refine region_dk 1 [(0, 0)] [[]] (rel [is (.bool false)])
  ⟨is_k, trivial⟩
  ⟨fun f s W i j l m n a => opv rfl rfl (by simp [go_sem]) rfl, trivial⟩ ?_
 intro f1 s1 W1 hB1 g1 hg1
 have fB1 := hB1.f fB0
 have z1 := hB1.below.size
 refine hK1 _ _ ?_
 have k1_0 := kt hg1 0 (hB1.is 0)
 refine wp_seq_k fun K2 hK2 => ?_
 refine region_dk 5 [(7, 0), (8, 1), (9, 2), (10, 3), (1, 4)] [[], [], [0, 1], [0, 1, 2], [], [0, 1, 2, 3, 4]] (rel [row 0 2 #[.int .i64 0, .int .i64 10] 3,
   row 1 2 #[.int .i64 20, .int .i64 0] 3,
   fun v s W => v = .slice (some ⟨(s 2), 0, none⟩) (2) (2) ∧ W.heap[(s 2)]? = some (.cells #[.slice (some ⟨(s 0), 0, none⟩) (2) (2), .slice (some ⟨(s 1), 0, none⟩) (2) (2)] 25 (0, 0)),
   isS fun s => .agg #[.int .i64 2, .slice (some ⟨(s 2), 0, none⟩) (2) (2), .slice (none) (0) (0)],
   bx 4 #[.int .i64 0, .slice (none) (0) (0), .slice (none) (0) (0)] 29])
  ⟨row_k, row_k, ⟨fun v k W W' hb h => ⟨h.1, blk_below h.2 hb⟩, fun v s s' W e h => by have h' : v = .slice (some ⟨(s 2), 0, none⟩) (2) (2) ∧ W.heap[(s 2)]? = some (.cells #[.slice (some ⟨(s 0), 0, none⟩) (2) (2), .slice (some ⟨(s 1), 0, none⟩) (2) (2)] 25 (0, 0)) := h; show v = .slice (some ⟨(s' 2), 0, none⟩) (2) (2) ∧ W.heap[(s' 2)]? = some (.cells #[.slice (some ⟨(s' 0), 0, none⟩) (2) (2), .slice (some ⟨(s' 1), 0, none⟩) (2) (2)] 25 (0, 0)); rw [← e 0 (by simp), ← e 1 (by simp), ← e 2 (by simp)]; exact h'⟩, isS_k fun s s' e => by rw [e 2 (by simp)], bx_k, trivial⟩
  ⟨fun f s W i j l m n a => opr rfl rfl (by simp [go_sem]),
  fun f s W i j l m n a => opr rfl rfl (by simp [go_sem]),
  fun f s W i j l m n a => opDo_value (v := .slice (some ⟨W.heap.size, 0, none⟩) (2) (2)) rfl rfl (by simp [go_sem, a.e 7 (j 0 rfl).1, a.e 8 (j 1 rfl).1, upd]) (balloc1 _ _) ⟨rfl, blk_new rfl⟩,
  fun f s W i j l m n a => opv rfl rfl (by simp [go_sem, a.e 9 (j 2 rfl).1, upd]) rfl,
  fun f s W i j l m n a => opb rfl rfl (by simp [go_sem]), trivial⟩ ?_
 intro f2 s2 W2 hB2 g2 hg2
 have fB2 := hB2.f fB1
 have z2 := hB2.below.size
 obtain ⟨r2_0, br2_0⟩ := hB2.is 0
 have lr2_0 := hB2.lr 0 br2_0
 obtain ⟨r2_1, br2_1⟩ := hB2.is 1
 have lr2_1 := hB2.lr 1 br2_1
 obtain ⟨r2_2, br2_2⟩ := hB2.is 2
 have lr2_2 := hB2.lr 2 br2_2
 obtain ⟨r2_4, br2_4⟩ := hB2.is 4
 have lr2_4 := hB2.lr 4 br2_4
 have ne2_0_1 := hB2.nb 0 1
 have ne2_0_2 := hB2.nb 0 2
 have ne2_1_2 := hB2.nb 1 2
 have ne2_0_4 := hB2.nb 0 4
 have ne2_1_4 := hB2.nb 1 4
 have ne2_2_4 := hB2.nb 2 4
 have k2_0 := kt hg2 0 k1_0
 have k2_10 := kt hg2 10 (hB2.is 3)
 have k2_1 := kt hg2 1 r2_4
 obtain ⟨W3, hW3⟩ : ∃ W', W' = W2.setRow (s2 4) #[.int .i64 2, .slice (some ⟨(s2 2), 0, none⟩) (2) (2), .slice (none) (0) (0)] := ⟨_, rfl⟩
 refine tail_skip (o := _) rfl ⟨rfl, rfl⟩ (run_seg hW3 (fr_ev k2_1) (fr_ev k2_10) br2_4 rfl rfl rfl rfl) ?_
 obtain ⟨fB3, nb3, ot3, z3⟩ := seg_facts hW3 fB2 br2_4 (by omega)
 clear hW3
 have b3_0 := ot3 _ _ (by omega) br2_0
 have b3_1 := ot3 _ _ (by omega) br2_1
 have b3_2 := ot3 _ _ (by omega) br2_2
 refine wpOps_end ?_
 refine hK2 _ _ ?_
 refine wp_seq_k fun K3 hK3 => ?_
 refine region_dk 8 [(11, 0), (12, 1), (13, 2), (14, 3), (15, 4), (16, 5), (17, 6), (2, 7)] [[], [0], [], [2], [], [4], [0, 1, 2, 3, 4, 5], [0, 1, 2, 3, 4, 5, 6]] (rel [row 0 2 #[.int .i64 30, .int .i64 40] 3,
   isS fun s => .agg #[.int .i64 0, .int .i64 0, .int .i64 100, .slice (some ⟨(s 0), 0, none⟩) (2) (2)],
   row 2 2 #[.int .i64 20, .int .i64 20] 3,
   isS fun s => .agg #[.int .i64 1, .int .i64 0, .int .i64 90, .slice (some ⟨(s 2), 0, none⟩) (2) (2)],
   row 4 2 #[.int .i64 10, .int .i64 0] 3,
   isS fun s => .agg #[.int .i64 0, .int .i64 15, .int .i64 130, .slice (some ⟨(s 4), 0, none⟩) (2) (2)],
   fun v s W => v = .slice (some ⟨(s 6), 0, none⟩) (3) (3) ∧ W.heap[(s 6)]? = some (.cells #[.int .i64 0, .int .i64 0, .int .i64 100, .slice (some ⟨(s 0), 0, none⟩) (2) (2), .int .i64 1, .int .i64 0, .int .i64 90, .slice (some ⟨(s 2), 0, none⟩) (2) (2), .int .i64 0, .int .i64 15, .int .i64 130, .slice (some ⟨(s 4), 0, none⟩) (2) (2)] 32 (0, 0)),
   isS fun s => .slice (some ⟨(s 6), 0, none⟩) (3) (3)])
  ⟨row_k, isS_k fun s s' e => by rw [e 0 (by simp)], row_k, isS_k fun s s' e => by rw [e 2 (by simp)], row_k, isS_k fun s s' e => by rw [e 4 (by simp)], ⟨fun v k W W' hb h => ⟨h.1, blk_below h.2 hb⟩, fun v s s' W e h => by have h' : v = .slice (some ⟨(s 6), 0, none⟩) (3) (3) ∧ W.heap[(s 6)]? = some (.cells #[.int .i64 0, .int .i64 0, .int .i64 100, .slice (some ⟨(s 0), 0, none⟩) (2) (2), .int .i64 1, .int .i64 0, .int .i64 90, .slice (some ⟨(s 2), 0, none⟩) (2) (2), .int .i64 0, .int .i64 15, .int .i64 130, .slice (some ⟨(s 4), 0, none⟩) (2) (2)] 32 (0, 0)) := h; show v = .slice (some ⟨(s' 6), 0, none⟩) (3) (3) ∧ W.heap[(s' 6)]? = some (.cells #[.int .i64 0, .int .i64 0, .int .i64 100, .slice (some ⟨(s' 0), 0, none⟩) (2) (2), .int .i64 1, .int .i64 0, .int .i64 90, .slice (some ⟨(s' 2), 0, none⟩) (2) (2), .int .i64 0, .int .i64 15, .int .i64 130, .slice (some ⟨(s' 4), 0, none⟩) (2) (2)] 32 (0, 0)); rw [← e 0 (by simp), ← e 2 (by simp), ← e 4 (by simp), ← e 6 (by simp)]; exact h'⟩, isS_k fun s s' e => by rw [e 6 (by simp)], trivial⟩
  ⟨fun f s W i j l m n a => opr rfl rfl (by simp [go_sem]),
  fun f s W i j l m n a => opv rfl rfl (by simp [go_sem, a.e 11 (j 0 rfl).1, upd]) rfl,
  fun f s W i j l m n a => opr rfl rfl (by simp [go_sem]),
  fun f s W i j l m n a => opv rfl rfl (by simp [go_sem, a.e 13 (j 2 rfl).1, upd]) rfl,
  fun f s W i j l m n a => opr rfl rfl (by simp [go_sem]),
  fun f s W i j l m n a => opv rfl rfl (by simp [go_sem, a.e 15 (j 4 rfl).1, upd]) rfl,
  fun f s W i j l m n a => opDo_value (v := .slice (some ⟨W.heap.size, 0, none⟩) (3) (3)) rfl rfl (by simp [go_sem, a.e 12 (j 1 rfl), a.e 14 (j 3 rfl), a.e 16 (j 5 rfl), upd]) (balloc1 _ _) ⟨rfl, blk_new rfl⟩,
  fun f s W i j l m n a => opv rfl rfl (by simp [go_sem, a.e 17 (j 6 rfl).1, upd]) rfl, trivial⟩ ?_
 intro f4 s4 W4 hB4 g4 hg4
 have fB4 := hB4.f fB3
 have z4 := hB4.below.size
 have b4_0 := hB4.b b3_0
 have b4_1 := hB4.b b3_1
 have b4_2 := hB4.b b3_2
 have b4_3 := hB4.b nb3
 obtain ⟨r4_0, br4_0⟩ := hB4.is 0
 have lr4_0 := hB4.lr 0 br4_0
 obtain ⟨r4_2, br4_2⟩ := hB4.is 2
 have lr4_2 := hB4.lr 2 br4_2
 obtain ⟨r4_4, br4_4⟩ := hB4.is 4
 have lr4_4 := hB4.lr 4 br4_4
 obtain ⟨r4_6, br4_6⟩ := hB4.is 6
 have lr4_6 := hB4.lr 6 br4_6
 have ne4_0_2 := hB4.nb 0 2
 have ne4_0_4 := hB4.nb 0 4
 have ne4_2_4 := hB4.nb 2 4
 have ne4_0_6 := hB4.nb 0 6
 have ne4_2_6 := hB4.nb 2 6
 have ne4_4_6 := hB4.nb 4 6
 refine hK3 _ _ ?_
 have k4_0 := kt hg4 0 k2_0
 have k4_1 := kt hg4 1 k2_1
 have k4_2 := kt hg4 2 (hB4.is 7)
 refine wp_seq_k fun K4 hK4 => ?_
 refine region_dk 13 [(19, 0), (20, 1), (21, 2), (22, 3), (18, 4), (23, 5), (24, 6), (25, 7), (26, 8), (3, 9), (4, 10), (5, 11), (6, 12)] [[], [], [], [0, 1, 2], [0, 1, 2, 3], [0, 1, 2, 3, 4], [0, 1, 2, 3, 4], [0, 1, 2, 3, 4], [0, 1, 2, 3, 4], [0, 1, 2, 3, 4, 5], [0, 1, 2, 3, 4, 5, 6, 9], [0, 1, 2, 3, 4, 5, 6, 7, 9, 10], [0, 1, 2, 3, 4, 5, 6, 7, 8, 9, 10, 11]] (rel [is (.agg #[.int .i64 2, .slice (some ⟨(s2 2), 0, none⟩) (2) (2), .slice (none) (0) (0)]),
   is (.slice (some ⟨(s4 6), 0, none⟩) (3) (3)),
   row 2 3 #[.int .i64 1, .int .i64 0, .int .i64 2] 3,
   is (.tuple #[.int .i64 1, .int .i64 10, .int .i64 110, .int .i64 0]),
   is (.tuple #[.int .i64 1, .int .i64 10, .int .i64 110, .int .i64 0]),
   is (.int .i64 1),
   is (.int .i64 10),
   is (.int .i64 110),
   is (.int .i64 0),
   is (.int .i64 1),
   is (.int .i64 10),
   is (.int .i64 110),
   is (.int .i64 0)])
  ⟨is_k, is_k, row_k, is_k, is_k, is_k, is_k, is_k, is_k, is_k, is_k, is_k, is_k, trivial⟩
  ⟨fun f s W i j l m n a => opv rfl rfl (by simp [go_sem, a.e 1 k4_1, cb b4_3 i 0, cb b4_3 i 1, cb b4_3 i 2]) rfl,
  fun f s W i j l m n a => opv rfl rfl (by simp [go_sem, a.e 2 k4_2]) rfl,
  fun f s W i j l m n a => opr rfl rfl (by simp [go_sem]),
  fun f s W i j l m n a => opc (args := #[.agg #[.int .i64 2, .slice (some ⟨(s2 2), 0, none⟩) (2) (2), .slice (none) (0) (0)], .slice (some ⟨(s4 6), 0, none⟩) (3) (3), .slice (some ⟨(s 2), 0, none⟩) (3) (3)]) rfl rfl (by simp [go_sem, a.e 19 (j 0 rfl), a.e 20 (j 1 rfl), a.e 21 (j 2 rfl).1]) (Late_3 2 0 chX stX jsX (s2 2) 0 2 0 0 0 (s4 6) 0 3 none _ _ _ _ odX (some ⟨(s 2), 0, none⟩) 3 3 [1, 0, 2] W flX (flR_X (blk_below b4_2 i) (blk_below b4_0 i) (blk_below b4_1 i) (blk_below br4_6 i) (blk_below br4_0 i) (blk_below br4_2 i) (blk_below br4_4 i)) (ii_block (xs := [1, 0, 2]) (j 2 rfl).2 rfl rfl) rfl odX_ok.1 odX_ok.2.1 odX_ok.2.2 enX.1 enX.2.1 enX.2.2 rfl rfl rfl),
  fun f s W i j l m n a => opv rfl rfl (by simp [go_sem, a.e 22 (j 3 rfl)]) rfl,
  fun f s W i j l m n a => opv rfl rfl (by simp [go_sem, a.e 18 (j 4 rfl)]) rfl,
  fun f s W i j l m n a => opv rfl rfl (by simp [go_sem, a.e 18 (j 4 rfl)]) rfl,
  fun f s W i j l m n a => opv rfl rfl (by simp [go_sem, a.e 18 (j 4 rfl)]) rfl,
  fun f s W i j l m n a => opv rfl rfl (by simp [go_sem, a.e 18 (j 4 rfl)]) rfl,
  fun f s W i j l m n a => opv rfl rfl (by simp [go_sem, a.e 23 (j 5 rfl)]) rfl,
  fun f s W i j l m n a => opv rfl rfl (by simp [go_sem, a.e 24 (j 6 rfl)]) rfl,
  fun f s W i j l m n a => opv rfl rfl (by simp [go_sem, a.e 25 (j 7 rfl)]) rfl,
  fun f s W i j l m n a => opv rfl rfl (by simp [go_sem, a.e 26 (j 8 rfl)]) rfl, trivial⟩ ?_
 intro f5 s5 W5 hB5 g5 hg5
 have fB5 := hB5.f fB4
 have z5 := hB5.below.size
 have b5_0 := hB5.b b4_0
 have b5_1 := hB5.b b4_1
 have b5_2 := hB5.b b4_2
 have b5_3 := hB5.b b4_3
 have b5_4 := hB5.b br4_0
 have b5_5 := hB5.b br4_2
 have b5_6 := hB5.b br4_4
 have b5_7 := hB5.b br4_6
 obtain ⟨r5_2, br5_2⟩ := hB5.is 2
 have lr5_2 := hB5.lr 2 br5_2
 refine hK4 _ _ ?_
 have k5_0 := kt hg5 0 k4_0
 have k5_3 := kt hg5 3 (hB5.is 9)
 have k5_4 := kt hg5 4 (hB5.is 10)
 have k5_5 := kt hg5 5 (hB5.is 11)
 have k5_6 := kt hg5 6 (hB5.is 12)
 refine wp_seq_k fun K5 hK5 => ?_
 refine region_dk 15 [(27, 0), (28, 1), (29, 2), (30, 3), (31, 4), (32, 5), (33, 6), (34, 7), (35, 8), (36, 9), (37, 10), (38, 11), (39, 12), (40, 13), (0, 14)] [[], [0], [0, 1], [0, 1, 2], [0, 1, 2, 3], [0, 1, 2, 3, 4], [0, 1, 2, 3, 4, 5], [0, 1, 2, 3, 4, 5, 6], [0, 1, 2, 3, 4, 5, 6, 7], [0, 1, 2, 3, 4, 5, 6, 7, 8], [0, 1, 2, 3, 4, 5, 6, 7, 8, 9], [0, 1, 2, 3, 4, 5, 6, 7, 8, 9, 10], [0, 1, 2, 3, 4, 5, 6, 7, 8, 9, 10, 11], [0, 1, 2, 3, 4, 5, 6, 7, 8, 9, 10, 11, 12], [0, 1, 2, 3, 4, 5, 6, 7, 8, 9, 10, 11, 12, 13]] (rel [is (.int .i64 0),
   is (.bool true),
   is (.bool true),
   is (.int .i64 1),
   is (.bool true),
   is (.bool true),
   is (.bool true),
   is (.int .i64 10),
   is (.bool true),
   is (.bool true),
   is (.bool true),
   is (.int .i64 110),
   is (.bool true),
   is (.bool true),
   is (.bool true)])
  ⟨is_k, is_k, is_k, is_k, is_k, is_k, is_k, is_k, is_k, is_k, is_k, is_k, is_k, is_k, is_k, trivial⟩
  ⟨fun f s W i j l m n a => opv rfl rfl (by simp [go_sem, a.e 6 k5_6]) rfl,
  fun f s W i j l m n a => opv rfl rfl (by simp [go_sem, a.e 27 (j 0 rfl)]) rfl,
  fun f s W i j l m n a => opv rfl rfl (by simp [go_sem, a.e 28 (j 1 rfl)]) rfl,
  fun f s W i j l m n a => osure rfl rfl (a.says (d := 29) rfl rfl (j 2 rfl)) (gv (by simp [go_sem, a.e 3 k5_3]) rfl),
  fun f s W i j l m n a => osure rfl rfl (a.says (d := 29) rfl rfl (j 2 rfl)) (gv (by simp [go_sem, a.e 30 (j 3 rfl)]) rfl),
  fun f s W i j l m n a => opk (c := true) rfl rfl (fun h => absurd h (by decide)) (fun _ => by simp [go_sem, a.e 29 (j 2 rfl), a.e 31 (j 4 rfl)]),
  fun f s W i j l m n a => opv rfl rfl (by simp [go_sem, a.e 32 (j 5 rfl)]) rfl,
  fun f s W i j l m n a => osure rfl rfl (a.says (d := 33) rfl rfl (j 6 rfl)) (gv (by simp [go_sem, a.e 4 k5_4]) rfl),
  fun f s W i j l m n a => osure rfl rfl (a.says (d := 33) rfl rfl (j 6 rfl)) (gv (by simp [go_sem, a.e 34 (j 7 rfl)]) rfl),
  fun f s W i j l m n a => opk (c := true) rfl rfl (fun h => absurd h (by decide)) (fun _ => by simp [go_sem, a.e 33 (j 6 rfl), a.e 35 (j 8 rfl)]),
  fun f s W i j l m n a => opv rfl rfl (by simp [go_sem, a.e 36 (j 9 rfl)]) rfl,
  fun f s W i j l m n a => osure rfl rfl (a.says (d := 37) rfl rfl (j 10 rfl)) (gv (by simp [go_sem, a.e 5 k5_5]) rfl),
  fun f s W i j l m n a => osure rfl rfl (a.says (d := 37) rfl rfl (j 10 rfl)) (gv (by simp [go_sem, a.e 38 (j 11 rfl)]) rfl),
  fun f s W i j l m n a => opk (c := true) rfl rfl (fun h => absurd h (by decide)) (fun _ => by simp [go_sem, a.e 37 (j 10 rfl), a.e 39 (j 12 rfl)]),
  fun f s W i j l m n a => opv rfl rfl (by simp [go_sem, a.e 40 (j 13 rfl)]) rfl, trivial⟩ ?_
 intro f6 s6 W6 hB6 g6 hg6
 have fB6 := hB6.f fB5
 have z6 := hB6.below.size
 have b6_0 := hB6.b b5_0
 have b6_1 := hB6.b b5_1
 have b6_2 := hB6.b b5_2
 have b6_3 := hB6.b b5_3
 have b6_4 := hB6.b b5_4
 have b6_5 := hB6.b b5_5
 have b6_6 := hB6.b b5_6
 have b6_7 := hB6.b b5_7
 have b6_8 := hB6.b br5_2
 refine hK5 _ _ ?_
 have k6_0 := kt hg6 0 (hB6.is 14)
 refine wp_ret ?_
 refine leave_one (N := 41) (v := .bool true) (.inr rfl) Try.results10 rfl k6_0 ?_
 exact ⟨rfl, fB6⟩
end Go.Proofs.Ytcgccflcjejlhaa
namespace Go.Proofs.Ytcgccflcjejlhaa
open Go.RowKit
theorem OwnI.blk {B : Nat} {xs : List Int} {g c : Nat} {W : World} (h : OwnI B xs g c W) : ∃ cs, W.heap[g]? = some (.cells cs 3 (0, 0)) := by
  rcases h.2.2.2 with ⟨e, -⟩ | ⟨g', cap, cur, e, h5, h6, h7⟩
  · cases e
  · cases e; exact ⟨_, h6⟩
theorem OwnN.otherI {T : TypeId} {z B n c B' g c' : Nat} {cs : List Value} {a : Option Addr} {xs : List Int} {W W' : World} (h : OwnN T z B n cs a c W) (hI : OwnI B' xs g c' W) (hot : ∀ k x, k ≠ g → W.heap[k]? = some x → W'.heap[k]? = some x) (hz : W.heap.size ≤ W'.heap.size) (hT : (3 != T) = true := by decide) : OwnN T z B n cs a c W' := by
  obtain ⟨cs', hb⟩ := hI.blk
  exact h.other hot (ownN_ne h hb hT) hz
/-- A job of five bytes; the jobs. -/
def jsB (jv : Nat → Int) (i : Nat) : Fj := ⟨(jv (i * 5) % 2).toNat, jv (i * 5 + 1), 2 * jv (i * 5), [jv (i * 5 + 2), jv (i * 5 + 3), jv (i * 5 + 4)]⟩
theorem jsB_ms (jv : Nat → Int) (i : Nat) : (jsB jv i).ms.length = 3 := rfl
def adB (g0 g1 g2 g3 : Nat) (i : Nat) : Option Addr := some ⟨if i = 0 then g0 else if i = 1 then g1 else if i = 2 then g2 else g3, 0, none⟩
theorem jb4 {W : World} {B c g g0 g1 g2 g3 : Nat} {jv : Nat → Int} (h : OwnN 32 4 B 4 [.int .i64 (jv 0 % 2), .int .i64 (jv 1), .int .i64 (2 * jv 0), .slice (some ⟨g0, 0, none⟩) 3 3, .int .i64 (jv 5 % 2), .int .i64 (jv 6), .int .i64 (2 * jv 5), .slice (some ⟨g1, 0, none⟩) 3 3, .int .i64 (jv 10 % 2), .int .i64 (jv 11), .int .i64 (2 * jv 10), .slice (some ⟨g2, 0, none⟩) 3 3, .int .i64 (jv 15 % 2), .int .i64 (jv 16), .int .i64 (2 * jv 15), .slice (some ⟨g3, 0, none⟩) 3 3] (some ⟨g, 0, none⟩) c W)
    (h0 : W.heap[g0]? = some (.cells #[.int .i64 (jv 2), .int .i64 (jv 3), .int .i64 (jv 4)] 3 (0, 0))) (h1 : W.heap[g1]? = some (.cells #[.int .i64 (jv 7), .int .i64 (jv 8), .int .i64 (jv 9)] 3 (0, 0))) (h2 : W.heap[g2]? = some (.cells #[.int .i64 (jv 12), .int .i64 (jv 13), .int .i64 (jv 14)] 3 (0, 0))) (h3 : W.heap[g3]? = some (.cells #[.int .i64 (jv 17), .int .i64 (jv 18), .int .i64 (jv 19)] 3 (0, 0))) :
    JbR W g 0 4 (jsB jv) (adB g0 g1 g2 g3) (fun _ => 3) := by
  rcases h with ⟨e, -⟩ | ⟨g', e, h⟩
  · cases e
  cases e
  have hk : ∀ x : Int, ((x % 2).toNat : Int) = x % 2 := fun x => Int.toNat_of_nonneg (Int.emod_nonneg _ (by decide))
  refine ⟨h.2.1, fun i hi => ?_⟩
  match i, hi with
  | 0, _ => exact ⟨by show _ = some (Value.int .i64 (((jv 0 % 2).toNat : Int))); rw [hk]; exact h.cell 0 rfl, h.cell 1 rfl, h.cell 2 rfl, h.cell 3 rfl, ii_block (xs := [jv 2, jv 3, jv 4]) h0 rfl rfl⟩
  | 1, _ => exact ⟨by show _ = some (Value.int .i64 (((jv 5 % 2).toNat : Int))); rw [hk]; exact h.cell 4 rfl, h.cell 5 rfl, h.cell 6 rfl, h.cell 7 rfl, ii_block (xs := [jv 7, jv 8, jv 9]) h1 rfl rfl⟩
  | 2, _ => exact ⟨by show _ = some (Value.int .i64 (((jv 10 % 2).toNat : Int))); rw [hk]; exact h.cell 8 rfl, h.cell 9 rfl, h.cell 10 rfl, h.cell 11 rfl, ii_block (xs := [jv 12, jv 13, jv 14]) h2 rfl rfl⟩
  | 3, _ => exact ⟨by show _ = some (Value.int .i64 (((jv 15 % 2).toNat : Int))); rw [hk]; exact h.cell 12 rfl, h.cell 13 rfl, h.cell 14 rfl, h.cell 15 rfl, ii_block (xs := [jv 17, jv 18, jv 19]) h3 rfl rfl⟩
/-- The order. -/
def odB (c : Int) (i : Nat) : Nat := (((i : Int) + c) % 4).toNat
def odL (c : Int) : List Int := [c % 4, (1 + c) % 4, (2 + c) % 4, (3 + c) % 4]
theorem odB_ok (c : Int) : (∀ i, i < 4 → elT (odL c) i = ((odB c i : Nat) : Int) ∧ odB c i < 4) ∧ ((odL c).mergeSort fun x y : Int => decide (x ≤ y)) = (List.range 4).map (fun i : Nat => (i : Int)) ∧ ∀ k, k < 4 → ∃ j, j < 4 ∧ odB c j = k := by
  refine ⟨fun i hi => ?_, ?_, fun k hk => ?_⟩
  · have e : elT (odL c) i = (((i : Nat) : Int) + c) % 4 := by
      match i, hi with
      | 0, _ => show c % 4 = (0 + c) % 4; rw [Int.zero_add]
      | 1, _ => rfl
      | 2, _ => rfl
      | 3, _ => rfl
    rw [e]; unfold odB
    omega
  · have h : c % 4 = 0 ∨ c % 4 = 1 ∨ c % 4 = 2 ∨ c % 4 = 3 := by omega
    unfold odL
    rcases h with h | h | h | h
    · rw [show c % 4 = 0 by omega, show (1 + c) % 4 = 1 by omega, show (2 + c) % 4 = 2 by omega, show (3 + c) % 4 = 3 by omega]; simp [List.mergeSort, List.MergeSort.Internal.splitInTwo, List.merge, List.range, List.range.loop]
    · rw [show c % 4 = 1 by omega, show (1 + c) % 4 = 2 by omega, show (2 + c) % 4 = 3 by omega, show (3 + c) % 4 = 0 by omega]; simp [List.mergeSort, List.MergeSort.Internal.splitInTwo, List.merge, List.range, List.range.loop]
    · rw [show c % 4 = 2 by omega, show (1 + c) % 4 = 3 by omega, show (2 + c) % 4 = 0 by omega, show (3 + c) % 4 = 1 by omega]; simp [List.mergeSort, List.MergeSort.Internal.splitInTwo, List.merge, List.range, List.range.loop]
    · rw [show c % 4 = 3 by omega, show (1 + c) % 4 = 0 by omega, show (2 + c) % 4 = 1 by omega, show (3 + c) % 4 = 2 by omega]; simp [List.mergeSort, List.MergeSort.Internal.splitInTwo, List.merge, List.range, List.range.loop]
  · refine ⟨(((k : Int) - c) % 4).toNat, by omega, ?_⟩
    unfold odB; omega
/-- The shop of the bytes. -/
def chB (gv : Nat → Int) : List (List Int) := [[0, gv 0], [gv 1, 0]]
def stB (sv : Nat → Int) : Fs := ⟨sv 0 % 3, 3 * sv 1, 3 * sv 1 + 1 + sv 2⟩
theorem flB {jv gv sv : Nat → Int} (gj : ∀ k, 0 ≤ jv k ∧ jv k ≤ 255) (gg : ∀ k, 0 ≤ gv k ∧ gv k ≤ 255) (gs : ∀ k, 0 ≤ sv k ∧ sv k ≤ 255) {ns : Nat} (hns : ns ≤ 1) : FlOk 3 ns 4 (chB gv) (stB sv) (jsB jv) := by
  have g0 := gg 0; have g1 := gg 1; have s0 := gs 0; have s1 := gs 1; have s2 := gs 2
  refine ⟨by decide, hns, by decide, rfl, fun i hi => ?_, fun _ => ?_, ?_, fun i => ?_, fun i => ?_, fun i => rfl⟩
  · match i, hi with
    | 0, _ => exact ⟨rfl, fun v hv => by simp [rwL, chB] at hv; omega⟩
    | 1, _ => exact ⟨rfl, fun v hv => by simp [rwL, chB] at hv; omega⟩
  · show 0 ≤ sv 0 % 3 ∧ sv 0 % 3 < ((3 : Nat) : Int) ∧ 0 ≤ 3 * sv 1 ∧ 3 * sv 1 < 3 * sv 1 + 1 + sv 2; omega
  · show 0 ≤ 3 * sv 1 + 1 + sv 2 ∧ 3 * sv 1 + 1 + sv 2 ≤ 2000; omega
  · have h0 := gj (i * 5); have h1 := gj (i * 5 + 1); have h2 := gj (i * 5 + 2); have h3 := gj (i * 5 + 3); have h4 := gj (i * 5 + 4)
    refine ⟨?_, ?_, ?_⟩
    · show (jv (i * 5) % 2).toNat ≤ 1; omega
    · show 0 ≤ jv (i * 5 + 1) ∧ jv (i * 5 + 1) ≤ 2000; omega
    · intro v hv; simp [jsB] at hv; omega
  · have h0 := gj (i * 5)
    show 0 ≤ 2 * jv (i * 5) ∧ 2 * jv (i * 5) ≤ 2000; omega
end Go.Proofs.Ytcgccflcjejlhaa
namespace Go.Proofs.Ytcgccflcjejlhaa
open Go.RowKit
def tailC : Nat → Code → Code
  | n + 1, .seq _ b => tailC n b
  | _, c => c
def bodyC (f : Func) : Code := f.body.getD .skip
end Go.Proofs.Ytcgccflcjejlhaa
