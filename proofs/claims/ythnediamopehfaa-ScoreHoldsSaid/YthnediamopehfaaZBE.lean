/- Part of the proof: what the claim leans on. -/
import Derived.Test.YthnediamopehfaaZBA
import Derived.Test.YthnediamopehfaaZBD
set_option linter.unusedSimpArgs false
set_option linter.unusedVariables false
namespace Go.Proofs.Ythnediamopehfaa
open Go.RowKit
set_option maxRecDepth 100000 in
set_option maxHeartbeats 400000 in
theorem holds_large (a1 a2 a3 : Option Addr) (c1 c2 c3 : Nat) (b : Bl) (lo hi : Int) (a4 : Option Addr) (c4 : Nat) (thing : List Int) (w : World) (h1 : Ii w a1 b.panels.length c1 b.panels) (h2 : Ii w a2 b.top.length c2 b.top) (h3 : Ii w a3 b.bottom.length c3 b.bottom) (h4 : Ii w a4 thing.length c4 thing) (hl : largeB b = true) :
  Calls Try.prog 5 #[.agg #[.int .i64 b.tab, .slice (a1) (b.panels.length) (c1), .int .i64 b.height, .slice (a2) (b.top.length) (c2), .slice (a3) (b.bottom.length) (c3), .int .i64 b.slot, .bool b.isOpen], .agg #[.int .i64 lo, .int .i64 hi], .slice (a4) (thing.length) (c4)] w (fun e w' => e = .returned (.bool true) ∧ Below w.heap.size w w') := by
 have hm1 := h1.len_le
 have hm2 := h2.len_le
 have hm3 := h3.len_le
 have hm4 := h4.len_le
 refine calls_fr Try.func5 Try.ntmps5 rfl rfl fun g hg => ?_
 have k0 : g 0 = .agg #[.int .i64 b.tab, .slice (a1) (b.panels.length) (c1), .int .i64 b.height, .slice (a2) (b.top.length) (c2), .slice (a3) (b.bottom.length) (c3), .int .i64 b.slot, .bool b.isOpen] := hg 0
 have k1 : g 1 = .agg #[.int .i64 lo, .int .i64 hi] := hg 1
 have k2 : g 2 = .slice (a4) (thing.length) (c4) := hg 2
 clear hg
 have fB0 : Below w.heap.size w w := Below.refl _ _
 refine wp_seq_k fun K1 hK1 => ?_
 refine region_dk 3 [(3, 0), (4, 1), (6, 2)] [[], [], []] (rel [bx 0 #[.int .i64 b.tab, .slice (a1) (b.panels.length) (c1), .int .i64 b.height, .slice (a2) (b.top.length) (c2), .slice (a3) (b.bottom.length) (c3), .int .i64 b.slot, .bool b.isOpen] 24,
   bx 1 #[.int .i64 lo, .int .i64 hi] 37,
   is (.bool false)])
  ⟨bx_k, bx_k, is_k, trivial⟩
  ⟨fun f s W i j k l m a => opb rfl rfl (by simp [go_sem, a.e 0 k0]),
  fun f s W i j k l m a => opb rfl rfl (by simp [go_sem, a.e 1 k1]),
  fun f s W i j k l m a => opv rfl rfl (by simp [go_sem]) rfl, trivial⟩ ?_
 intro f1 s1 W1 hB1 g1 hg1
 have fB1 := below_trans fB0 hB1.below
 have z1 := hB1.below.size
 obtain ⟨r1_0, br1_0⟩ := hB1.is 0
 have lr1_0 := hB1.lr 0 br1_0
 obtain ⟨r1_1, br1_1⟩ := hB1.is 1
 have lr1_1 := hB1.lr 1 br1_1
 have ne1_0_1 := hB1.nb 0 1
 refine hK1 _ _ ?_
 have k1_2 := kt hg1 2 k2
 have k1_3 := kt hg1 3 r1_0
 have k1_4 := kt hg1 4 r1_1
 have k1_6 := kt hg1 6 (hB1.is 2)
 refine wp_seq_k fun K2 hK2 => ?_
 refine wp_seq_k fun K3 hK3 => ?_
 refine region_dk 7 [(17, 0), (18, 1), (19, 2), (20, 3), (21, 4), (22, 5), (23, 6)] [[], [0], [0, 1], [0, 1, 2], [0, 1, 2, 3], [0, 1, 2, 3, 4], [0, 1, 2, 3, 4, 5]] (rel [is (.agg #[.int .i64 b.tab, .slice (a1) (b.panels.length) (c1), .int .i64 b.height, .slice (a2) (b.top.length) (c2), .slice (a3) (b.bottom.length) (c3), .int .i64 b.slot, .bool b.isOpen]),
   is (.bool true),
   is (.bool true),
   gd (true) false (fun _ _ _ => True),
   gd (true) false (fun _ _ _ => True),
   gd (true) false (fun _ _ _ => True),
   is (.bool true)])
  ⟨is_k, is_k, is_k, gdt_k, gdt_k, gdt_k, is_k, trivial⟩
  ⟨fun f s W i j k l m a => opv rfl rfl (by simp [go_sem, a.e 3 k1_3, Joins.cell_of_block (blk_below br1_0 i) 0, Joins.cell_of_block (blk_below br1_0 i) 1, Joins.cell_of_block (blk_below br1_0 i) 2, Joins.cell_of_block (blk_below br1_0 i) 3, Joins.cell_of_block (blk_below br1_0 i) 4, Joins.cell_of_block (blk_below br1_0 i) 5, Joins.cell_of_block (blk_below br1_0 i) 6]) rfl,
  fun f s W i j k l m a => by have n := below_trans fB1 i; exact opDo_call rfl rfl (by simp [go_sem, a.e 17 (j 0 rfl)]) (large_any a1 a2 a3 c1 c2 c3 b W (h1.below n (Nat.le_refl _)) (h2.below n (Nat.le_refl _)) (h3.below n (Nat.le_refl _))) ((fun e W' h => by have h1 := h.1; rw [hl] at h1; exact ⟨_, h1, h.2, rfl⟩)),
  fun f s W i j k l m a => opv rfl rfl (by simp [go_sem, a.e 18 (j 1 rfl)]) rfl,
  fun f s W i j k l m a => gno (a.says (d := 19) rfl rfl (j 2 rfl)),
  fun f s W i j k l m a => gno (a.says (d := 19) rfl rfl (j 2 rfl)),
  fun f s W i j k l m a => gno (a.says (d := 19) rfl rfl (j 2 rfl)),
  fun f s W i j k l m a => opk (c := true) rfl rfl (fun h => absurd h (by decide)) (fun _ => by simp [go_sem, a.e 19 (j 2 rfl)]), trivial⟩ ?_
 intro f2 s2 W2 hB2 g2 hg2
 have fB2 := below_trans fB1 hB2.below
 have z2 := hB2.below.size
 have b2_0 := blk_below br1_0 hB2.below
 have b2_1 := blk_below br1_1 hB2.below
 refine hK3 _ _ ?_
 have k2_2 := kt hg2 2 k1_2
 have k2_3 := kt hg2 3 k1_3
 have k2_4 := kt hg2 4 k1_4
 have k2_6 := kt hg2 6 k1_6
 have k2_23 := kt hg2 23 (hB2.is 6)
 refine wp_cond_true ((fr_eval rfl).trans k2_23) ?_
 refine wp_seq_k fun K5 hK5 => ?_
 refine region_dk 2 [(24, 0), (6, 1)] [[], [0]] (rel [is (.bool true),
   is (.bool true)])
  ⟨is_k, is_k, trivial⟩
  ⟨fun f s W i j k l m a => opc rfl rfl (by simp [go_sem]) (known_any W),
  fun f s W i j k l m a => opv rfl rfl (by simp [go_sem, a.e 24 (j 0 rfl)]) rfl, trivial⟩ ?_
 intro f3 s3 W3 hB3 g3 hg3
 have fB3 := below_trans fB2 hB3.below
 have z3 := hB3.below.size
 have b3_0 := blk_below b2_0 hB3.below
 have b3_1 := blk_below b2_1 hB3.below
 refine hK5 _ _ ?_
 have k3_2 := kt hg3 2 k2_2
 have k3_3 := kt hg3 3 k2_3
 have k3_4 := kt hg3 4 k2_4
 have k3_6 := kt hg3 6 (hB3.is 1)
 refine wp_ret ?_
 refine then_ret ?_
 refine leave_one (N := 115) (v := .bool true) (.inr rfl) Try.results5 rfl k3_6 ?_
 exact ⟨rfl, fB3⟩
set_option maxRecDepth 100000 in
set_option maxHeartbeats 400000 in
theorem holds_long (a1 a2 a3 : Option Addr) (c1 c2 c3 : Nat) (b : Bl) (lo hi : Int) (a4 : Option Addr) (c4 : Nat) (thing : List Int) (w : World) (h1 : Ii w a1 b.panels.length c1 b.panels) (h2 : Ii w a2 b.top.length c2 b.top) (h3 : Ii w a3 b.bottom.length c3 b.bottom) (h4 : Ii w a4 thing.length c4 thing) (hl : largeB b = false) (ht : decide (10 < (thing.length : Int)) = true) :
  Calls Try.prog 5 #[.agg #[.int .i64 b.tab, .slice (a1) (b.panels.length) (c1), .int .i64 b.height, .slice (a2) (b.top.length) (c2), .slice (a3) (b.bottom.length) (c3), .int .i64 b.slot, .bool b.isOpen], .agg #[.int .i64 lo, .int .i64 hi], .slice (a4) (thing.length) (c4)] w (fun e w' => e = .returned (.bool true) ∧ Below w.heap.size w w') := by
 have hm1 := h1.len_le
 have hm2 := h2.len_le
 have hm3 := h3.len_le
 have hm4 := h4.len_le
 refine calls_fr Try.func5 Try.ntmps5 rfl rfl fun g hg => ?_
 have k0 : g 0 = .agg #[.int .i64 b.tab, .slice (a1) (b.panels.length) (c1), .int .i64 b.height, .slice (a2) (b.top.length) (c2), .slice (a3) (b.bottom.length) (c3), .int .i64 b.slot, .bool b.isOpen] := hg 0
 have k1 : g 1 = .agg #[.int .i64 lo, .int .i64 hi] := hg 1
 have k2 : g 2 = .slice (a4) (thing.length) (c4) := hg 2
 clear hg
 have fB0 : Below w.heap.size w w := Below.refl _ _
 refine wp_seq_k fun K1 hK1 => ?_
 refine region_dk 3 [(3, 0), (4, 1), (6, 2)] [[], [], []] (rel [bx 0 #[.int .i64 b.tab, .slice (a1) (b.panels.length) (c1), .int .i64 b.height, .slice (a2) (b.top.length) (c2), .slice (a3) (b.bottom.length) (c3), .int .i64 b.slot, .bool b.isOpen] 24,
   bx 1 #[.int .i64 lo, .int .i64 hi] 37,
   is (.bool false)])
  ⟨bx_k, bx_k, is_k, trivial⟩
  ⟨fun f s W i j k l m a => opb rfl rfl (by simp [go_sem, a.e 0 k0]),
  fun f s W i j k l m a => opb rfl rfl (by simp [go_sem, a.e 1 k1]),
  fun f s W i j k l m a => opv rfl rfl (by simp [go_sem]) rfl, trivial⟩ ?_
 intro f1 s1 W1 hB1 g1 hg1
 have fB1 := below_trans fB0 hB1.below
 have z1 := hB1.below.size
 obtain ⟨r1_0, br1_0⟩ := hB1.is 0
 have lr1_0 := hB1.lr 0 br1_0
 obtain ⟨r1_1, br1_1⟩ := hB1.is 1
 have lr1_1 := hB1.lr 1 br1_1
 have ne1_0_1 := hB1.nb 0 1
 refine hK1 _ _ ?_
 have k1_2 := kt hg1 2 k2
 have k1_3 := kt hg1 3 r1_0
 have k1_4 := kt hg1 4 r1_1
 have k1_6 := kt hg1 6 (hB1.is 2)
 refine wp_seq_k fun K2 hK2 => ?_
 refine wp_seq_k fun K3 hK3 => ?_
 refine region_dk 7 [(17, 0), (18, 1), (19, 2), (20, 3), (21, 4), (22, 5), (23, 6)] [[], [0], [0, 1], [0, 1, 2], [0, 1, 2, 3], [0, 1, 2, 3, 4], [0, 1, 2, 3, 4, 5]] (rel [is (.agg #[.int .i64 b.tab, .slice (a1) (b.panels.length) (c1), .int .i64 b.height, .slice (a2) (b.top.length) (c2), .slice (a3) (b.bottom.length) (c3), .int .i64 b.slot, .bool b.isOpen]),
   is (.bool false),
   is (.bool false),
   gd (false) false (is (.slice (a4) (thing.length) (c4))),
   gd (false) false (is (.int .i64 ((thing.length : Int)))),
   gd (false) false (is (.bool (decide (10 < (thing.length : Int))))),
   is (.bool (decide (10 < (thing.length : Int))))])
  ⟨is_k, is_k, is_k, gd_k (is_k), gd_k (is_k), gd_k (is_k), is_k, trivial⟩
  ⟨fun f s W i j k l m a => opv rfl rfl (by simp [go_sem, a.e 3 k1_3, Joins.cell_of_block (blk_below br1_0 i) 0, Joins.cell_of_block (blk_below br1_0 i) 1, Joins.cell_of_block (blk_below br1_0 i) 2, Joins.cell_of_block (blk_below br1_0 i) 3, Joins.cell_of_block (blk_below br1_0 i) 4, Joins.cell_of_block (blk_below br1_0 i) 5, Joins.cell_of_block (blk_below br1_0 i) 6]) rfl,
  fun f s W i j k l m a => by have n := below_trans fB1 i; exact opDo_call rfl rfl (by simp [go_sem, a.e 17 (j 0 rfl)]) (large_any a1 a2 a3 c1 c2 c3 b W (h1.below n (Nat.le_refl _)) (h2.below n (Nat.le_refl _)) (h3.below n (Nat.le_refl _))) ((fun e W' h => by have h1 := h.1; rw [hl] at h1; exact ⟨_, h1, h.2, rfl⟩)),
  fun f s W i j k l m a => opv rfl rfl (by simp [go_sem, a.e 18 (j 1 rfl)]) rfl,
  fun f s W i j k l m a => gdo rfl rfl (a.says (d := 19) rfl rfl (j 2 rfl)) fun hgd0 => gv (by simp [go_sem, a.e 2 k1_2]) rfl,
  fun f s W i j k l m a => gdo rfl rfl (a.says (d := 19) rfl rfl (j 2 rfl)) fun hgd0 => gv (by simp [go_sem, a.e 20 ((j 3 rfl).1 hgd0)]) rfl,
  fun f s W i j k l m a => gdo rfl rfl (a.says (d := 19) rfl rfl (j 2 rfl)) fun hgd0 => gv (by simp [go_sem, a.e 21 ((j 4 rfl).1 hgd0)]) rfl,
  fun f s W i j k l m a => opk (c := false) rfl rfl (fun _ => by simp [go_sem, a.e 19 (j 2 rfl), a.e 22 ((j 5 rfl).1 rfl)]) (fun h => absurd h (by decide)), trivial⟩ ?_
 intro f2 s2 W2 hB2 g2 hg2
 have fB2 := below_trans fB1 hB2.below
 have z2 := hB2.below.size
 have b2_0 := blk_below br1_0 hB2.below
 have b2_1 := blk_below br1_1 hB2.below
 refine hK3 _ _ ?_
 have k2_2 := kt hg2 2 k1_2
 have k2_3 := kt hg2 3 k1_3
 have k2_4 := kt hg2 4 k1_4
 have k2_6 := kt hg2 6 k1_6
 have k2_23 := kt hg2 23 (hB2.is 6)
 have hc4 : (fr 115 g2).eval (.tmp 23) = .bool true := ((fr_eval rfl).trans k2_23).trans (by rw [ht])
 refine wp_cond_true (hc4) ?_
 refine wp_seq_k fun K5 hK5 => ?_
 refine region_dk 2 [(24, 0), (6, 1)] [[], [0]] (rel [is (.bool true),
   is (.bool true)])
  ⟨is_k, is_k, trivial⟩
  ⟨fun f s W i j k l m a => opc rfl rfl (by simp [go_sem]) (known_any W),
  fun f s W i j k l m a => opv rfl rfl (by simp [go_sem, a.e 24 (j 0 rfl)]) rfl, trivial⟩ ?_
 intro f3 s3 W3 hB3 g3 hg3
 have fB3 := below_trans fB2 hB3.below
 have z3 := hB3.below.size
 have b3_0 := blk_below b2_0 hB3.below
 have b3_1 := blk_below b2_1 hB3.below
 refine hK5 _ _ ?_
 have k3_2 := kt hg3 2 k2_2
 have k3_3 := kt hg3 3 k2_3
 have k3_4 := kt hg3 4 k2_4
 have k3_6 := kt hg3 6 (hB3.is 1)
 refine wp_ret ?_
 refine then_ret ?_
 refine leave_one (N := 115) (v := .bool true) (.inr rfl) Try.results5 rfl k3_6 ?_
 exact ⟨rfl, fB3⟩
set_option maxRecDepth 100000 in
set_option maxHeartbeats 2000000 in
theorem holds_bad1 (a1 a2 a3 : Option Addr) (c1 c2 c3 : Nat) (b : Bl) (lo hi : Int) (a4 : Option Addr) (c4 : Nat) (thing : List Int) (w : World) (h1 : Ii w a1 b.panels.length c1 b.panels) (h2 : Ii w a2 b.top.length c2 b.top) (h3 : Ii w a3 b.bottom.length c3 b.bottom) (h4 : Ii w a4 thing.length c4 thing) (hl : largeB b = false) (ht : decide (10 < (thing.length : Int)) = false) (x : Int) (hx : checkErr b = x) (hn : (x != 0) = true) :
  Calls Try.prog 5 #[.agg #[.int .i64 b.tab, .slice (a1) (b.panels.length) (c1), .int .i64 b.height, .slice (a2) (b.top.length) (c2), .slice (a3) (b.bottom.length) (c3), .int .i64 b.slot, .bool b.isOpen], .agg #[.int .i64 lo, .int .i64 hi], .slice (a4) (thing.length) (c4)] w (fun e w' => e = .returned (.bool true) ∧ Below w.heap.size w w') := by
 have hm1 := h1.len_le
 have hm2 := h2.len_le
 have hm3 := h3.len_le
 obtain ⟨m1, m2, m3⟩ := large_false hl
 have n1 : b.panels.length ≤ 1000 := by omega
 have n2 : b.top.length ≤ 1000 := by omega
 have n3 : b.bottom.length ≤ 1000 := by omega
 have hm4 := h4.len_le
 have ht' : ¬ 10 < (thing.length : Int) := of_decide_eq_false ht
 have n4 : thing.length ≤ 1000 := by omega
 refine calls_fr Try.func5 Try.ntmps5 rfl rfl fun g hg => ?_
 have k0 : g 0 = .agg #[.int .i64 b.tab, .slice (a1) (b.panels.length) (c1), .int .i64 b.height, .slice (a2) (b.top.length) (c2), .slice (a3) (b.bottom.length) (c3), .int .i64 b.slot, .bool b.isOpen] := hg 0
 have k1 : g 1 = .agg #[.int .i64 lo, .int .i64 hi] := hg 1
 have k2 : g 2 = .slice (a4) (thing.length) (c4) := hg 2
 clear hg
 have fB0 : Below w.heap.size w w := Below.refl _ _
 refine wp_seq_k fun K1 hK1 => ?_
 refine region_dk 3 [(3, 0), (4, 1), (6, 2)] [[], [], []] (rel [bx 0 #[.int .i64 b.tab, .slice (a1) (b.panels.length) (c1), .int .i64 b.height, .slice (a2) (b.top.length) (c2), .slice (a3) (b.bottom.length) (c3), .int .i64 b.slot, .bool b.isOpen] 24,
   bx 1 #[.int .i64 lo, .int .i64 hi] 37,
   is (.bool false)])
  ⟨bx_k, bx_k, is_k, trivial⟩
  ⟨fun f s W i j l m n a => opb rfl rfl (by simp [go_sem, a.e 0 k0]),
  fun f s W i j l m n a => opb rfl rfl (by simp [go_sem, a.e 1 k1]),
  fun f s W i j l m n a => opv rfl rfl (by simp [go_sem]) rfl, trivial⟩ ?_
 intro f1 s1 W1 hB1 g1 hg1
 have fB1 := below_trans fB0 hB1.below
 have z1 := hB1.below.size
 obtain ⟨r1_0, br1_0⟩ := hB1.is 0
 have lr1_0 := hB1.lr 0 br1_0
 obtain ⟨r1_1, br1_1⟩ := hB1.is 1
 have lr1_1 := hB1.lr 1 br1_1
 have ne1_0_1 := hB1.nb 0 1
 refine hK1 _ _ ?_
 have k1_2 := kt hg1 2 k2
 have k1_3 := kt hg1 3 r1_0
 have k1_4 := kt hg1 4 r1_1
 have k1_6 := kt hg1 6 (hB1.is 2)
 refine wp_seq_k fun K2 hK2 => ?_
 refine wp_seq_k fun K3 hK3 => ?_
 refine region_dk 7 [(17, 0), (18, 1), (19, 2), (20, 3), (21, 4), (22, 5), (23, 6)] [[], [0], [0, 1], [0, 1, 2], [0, 1, 2, 3], [0, 1, 2, 3, 4], [0, 1, 2, 3, 4, 5]] (rel [is (.agg #[.int .i64 b.tab, .slice (a1) (b.panels.length) (c1), .int .i64 b.height, .slice (a2) (b.top.length) (c2), .slice (a3) (b.bottom.length) (c3), .int .i64 b.slot, .bool b.isOpen]),
   is (.bool false),
   is (.bool false),
   gd (false) false (is (.slice (a4) (thing.length) (c4))),
   gd (false) false (is (.int .i64 ((thing.length : Int)))),
   gd (false) false (is (.bool (decide (10 < (thing.length : Int))))),
   is (.bool (decide (10 < (thing.length : Int))))])
  ⟨is_k, is_k, is_k, gd_k (is_k), gd_k (is_k), gd_k (is_k), is_k, trivial⟩
  ⟨fun f s W i j l m n a => opv rfl rfl (by simp [go_sem, a.e 3 k1_3, Joins.cell_of_block (blk_below br1_0 i) 0, Joins.cell_of_block (blk_below br1_0 i) 1, Joins.cell_of_block (blk_below br1_0 i) 2, Joins.cell_of_block (blk_below br1_0 i) 3, Joins.cell_of_block (blk_below br1_0 i) 4, Joins.cell_of_block (blk_below br1_0 i) 5, Joins.cell_of_block (blk_below br1_0 i) 6]) rfl,
  fun f s W i j l m n a => by have p := below_trans fB1 i; exact opDo_call rfl rfl (by simp [go_sem, a.e 17 (j 0 rfl)]) (large_any a1 a2 a3 c1 c2 c3 b W (h1.below p (Nat.le_refl _)) (h2.below p (Nat.le_refl _)) (h3.below p (Nat.le_refl _))) ((fun e W' h => by have h1 := h.1; rw [hl] at h1; exact ⟨_, h1, h.2, rfl⟩)),
  fun f s W i j l m n a => opv rfl rfl (by simp [go_sem, a.e 18 (j 1 rfl)]) rfl,
  fun f s W i j l m n a => gdo rfl rfl (a.says (d := 19) rfl rfl (j 2 rfl)) fun hgd0 => gv (by simp [go_sem, a.e 2 k1_2]) rfl,
  fun f s W i j l m n a => gdo rfl rfl (a.says (d := 19) rfl rfl (j 2 rfl)) fun hgd0 => gv (by simp [go_sem, a.e 20 ((j 3 rfl).1 hgd0)]) rfl,
  fun f s W i j l m n a => gdo rfl rfl (a.says (d := 19) rfl rfl (j 2 rfl)) fun hgd0 => gv (by simp [go_sem, a.e 21 ((j 4 rfl).1 hgd0)]) rfl,
  fun f s W i j l m n a => opk (c := false) rfl rfl (fun _ => by simp [go_sem, a.e 19 (j 2 rfl), a.e 22 ((j 5 rfl).1 rfl)]) (fun h => absurd h (by decide)), trivial⟩ ?_
 intro f2 s2 W2 hB2 g2 hg2
 have fB2 := below_trans fB1 hB2.below
 have z2 := hB2.below.size
 have b2_0 := blk_below br1_0 hB2.below
 have b2_1 := blk_below br1_1 hB2.below
 refine hK3 _ _ ?_
 have k2_2 := kt hg2 2 k1_2
 have k2_3 := kt hg2 3 k1_3
 have k2_4 := kt hg2 4 k1_4
 have k2_6 := kt hg2 6 k1_6
 have k2_23 := kt hg2 23 (hB2.is 6)
 have hc4 : (fr 115 g2).eval (.tmp 23) = .bool false := ((fr_eval rfl).trans k2_23).trans (by rw [ht])
 refine wp_cond_false (hc4) ?_
 refine wp_skip ?_
 refine hK2 _ _ ?_
 refine wp_seq_k fun K5 hK5 => ?_
 refine region_dk 5 [(25, 0), (26, 1), (27, 2), (28, 3), (7, 4), (8, 6)] [[], [0], [], [0, 1, 2], [], [0, 1, 2, 3, 4], [0, 1, 2, 3, 4, 5]] (rel [is (.agg #[.int .i64 b.tab, .slice (a1) (b.panels.length) (c1), .int .i64 b.height, .slice (a2) (b.top.length) (c2), .slice (a3) (b.bottom.length) (c3), .int .i64 b.slot, .bool b.isOpen]),
   fun v s W => NwBlk (s 1) (b) v W,
   is (.slice (a4) (thing.length) (c4)),
   fun v s W => NwIi (s 3) (thing) v W,
   bx 4 #[.int .i64 0, .slice (none) (0) (0), .int .i64 0, .slice (none) (0) (0), .slice (none) (0) (0), .int .i64 0, .bool false] 24])
  ⟨is_k, ⟨fun v k W W' hb h => h.below hb, fun v s s' W e h => by have h' : NwBlk (s 1) (b) v W := h; show NwBlk (s' 1) (b) v W; rw [← e 1 (by simp)]; exact h'⟩, is_k, ⟨fun v k W W' hb h => h.below hb, fun v s s' W e h => by have h' : NwIi (s 3) (thing) v W := h; show NwIi (s' 3) (thing) v W; rw [← e 3 (by simp)]; exact h'⟩, bx_k, trivial⟩
  ⟨fun f s W i j l m n a => opv rfl rfl (by simp [go_sem, a.e 3 k2_3, Joins.cell_of_block (blk_below b2_0 i) 0, Joins.cell_of_block (blk_below b2_0 i) 1, Joins.cell_of_block (blk_below b2_0 i) 2, Joins.cell_of_block (blk_below b2_0 i) 3, Joins.cell_of_block (blk_below b2_0 i) 4, Joins.cell_of_block (blk_below b2_0 i) 5, Joins.cell_of_block (blk_below b2_0 i) 6]) rfl,
  fun f s W i j l m n a => by have p := below_trans fB2 i; exact opDo_call rfl rfl (by simp [go_sem, a.e 25 (j 0 rfl)]) (own_any a1 a2 a3 c1 c2 c3 b W (h1.below p (Nat.le_refl _)) (h2.below p (Nat.le_refl _)) (h3.below p (Nat.le_refl _)) n1 n2 n3) (fun e W' h => by obtain ⟨v, e1, h1, h2⟩ := h; exact ⟨v, e1, h2, (show NwBlk (upd s 1 W.heap.size 1) (b) v W' from by rw [upd_at]; exact h1)⟩),
  fun f s W i j l m n a => opv rfl rfl (by simp [go_sem, a.e 2 k2_2]) rfl,
  fun f s W i j l m n a => by have p := below_trans fB2 i; exact opDo_call rfl rfl (by simp [go_sem, a.e 27 (j 2 rfl)]) (ints_any a4 c4 thing W (h4.below p (Nat.le_refl _)) n4) (fun e W' h => by obtain ⟨v, e1, h1, h2⟩ := h; exact ⟨v, e1, h2, (show NwIi (upd s 3 W.heap.size 3) (thing) v W' from by rw [upd_at]; exact h1)⟩),
  fun f s W i j l m n a => opb rfl rfl (by simp [go_sem]), trivial⟩ ?_
 intro f3 s3 W3 hB3 g3 hg3
 have fB3 := below_trans fB2 hB3.below
 have z3 := hB3.below.size
 have b3_0 := blk_below b2_0 hB3.below
 have b3_1 := blk_below b2_1 hB3.below
 have la3_1_1 := hB3.from' 1 (by decide)
 obtain ⟨g1', c4', g2', c5', g3', c6', r3_1, ⟨q7', q9', q8'⟩, ⟨q10', q12', q11'⟩, ⟨q13', q15', q14'⟩⟩ := hB3.is 1
 obtain ⟨g16', c17', r3_3, q18', q20', q19'⟩ := hB3.is 3
 obtain ⟨r3_4, br3_4⟩ := hB3.is 4
 have lr3_4 := hB3.lr 4 br3_4
 have la3_1 := hB3.from' 1 (by decide)
 have of3_1_4_0 := hB3.off 1 4 (by decide) (by decide) (by decide) q9' (fun W h => (NwBlk.lt h r3_1).1) (fun _ _ _ h => lt_of_blk h.2)
 have of3_1_4_1 := hB3.off 1 4 (by decide) (by decide) (by decide) q12' (fun W h => (NwBlk.lt h r3_1).2.1) (fun _ _ _ h => lt_of_blk h.2)
 have of3_1_4_2 := hB3.off 1 4 (by decide) (by decide) (by decide) q15' (fun W h => (NwBlk.lt h r3_1).2.2) (fun _ _ _ h => lt_of_blk h.2)
 have la3_3 := hB3.from' 3 (by decide)
 have of3_3_4_0 := hB3.off 3 4 (by decide) (by decide) (by decide) q20' (fun W h => NwIi.lt h r3_3) (fun _ _ _ h => lt_of_blk h.2)
 have k3_2 := kt hg3 2 k2_2
 have k3_3 := kt hg3 3 k2_3
 have k3_4 := kt hg3 4 k2_4
 have k3_6 := kt hg3 6 k2_6
 have k3_26 := kt hg3 26 r3_1
 have k3_28 := kt hg3 28 r3_3
 have k3_7 := kt hg3 7 r3_4
 obtain ⟨W4, hW4⟩ : ∃ W', W' = W3.setRow (s3 4) #[.int .i64 b.tab, .slice (some ⟨g1', 0, none⟩) (b.panels.length) (c4'), .int .i64 b.height, .slice (some ⟨g2', 0, none⟩) (b.top.length) (c5'), .slice (some ⟨g3', 0, none⟩) (b.bottom.length) (c6'), .int .i64 b.slot, .bool b.isOpen] := ⟨_, rfl⟩
 refine tail_skip (o := _) rfl ⟨rfl, rfl⟩ (run_seg hW4 (fr_ev k3_7) (fr_ev k3_26) br3_4 rfl rfl rfl rfl) ?_
 obtain ⟨fB4, nb4, ot4, z4⟩ := seg_facts hW4 fB3 br3_4 (by omega)
 clear hW4
 have b4_0 := ot4 _ _ (by omega) b3_0
 have b4_1 := ot4 _ _ (by omega) b3_1
 have q21' := (q7'.other ot4 q8' (by omega) z4)
 have q22' := Nat.lt_of_lt_of_le q8' z4
 have q23' := (q10'.other ot4 q11' (by omega) z4)
 have q24' := Nat.lt_of_lt_of_le q11' z4
 have q25' := (q13'.other ot4 q14' (by omega) z4)
 have q26' := Nat.lt_of_lt_of_le q14' z4
 have q27' := (q18'.other ot4 q19' (by omega) z4)
 have q28' := Nat.lt_of_lt_of_le q19' z4
 refine tail_value (o := _) rfl rfl rfl (v := .slice (some ⟨g16', 0, none⟩) ((thing).length) (c17')) (by simp [go_sem, frv 115 k3_28]) ?_
 generalize hg5 : upd g3 8 (.slice (some ⟨g16', 0, none⟩) ((thing).length) (c17')) = g5
 have k5_2 := ku hg5 2 k3_2
 have k5_3 := ku hg5 3 k3_3
 have k5_4 := ku hg5 4 k3_4
 have k5_6 := ku hg5 6 k3_6
 have k5_7 := ku hg5 7 k3_7
 have k5_8 := kt hg5 8 (upd_same _ _ _)
 refine wpOps_end ?_
 refine hK5 _ _ ?_
 refine wp_seq_k fun K6 hK6 => ?_
 refine region_dk 11 [(30, 0), (31, 1), (32, 2), (33, 3), (29, 4), (34, 5), (35, 6), (36, 7), (9, 8), (10, 9), (11, 10)] [[], [], [], [0, 1, 2], [0, 1, 2, 3], [0, 1, 2, 3, 4], [0, 1, 2, 3, 4], [0, 1, 2, 3, 4], [0, 1, 2, 3, 4, 5], [0, 1, 2, 3, 4, 5, 6, 8], [0, 1, 2, 3, 4, 5, 6, 7, 8, 9]] (rel [is (.agg #[.int .i64 b.tab, .slice (some ⟨g1', 0, none⟩) (b.panels.length) (c4'), .int .i64 b.height, .slice (some ⟨g2', 0, none⟩) (b.top.length) (c5'), .slice (some ⟨g3', 0, none⟩) (b.bottom.length) (c6'), .int .i64 b.slot, .bool b.isOpen]),
   is (.agg #[.int .i64 lo, .int .i64 hi]),
   is (.slice (some ⟨g16', 0, none⟩) ((thing).length) (c17')),
   is (.tuple #[.bool false, .bool false, .int .i64 x]),
   is (.tuple #[.bool false, .bool false, .int .i64 x]),
   is (.bool false),
   is (.bool false),
   is (.int .i64 x),
   is (.bool false),
   is (.bool false),
   is (.int .i64 x)])
  ⟨is_k, is_k, is_k, is_k, is_k, is_k, is_k, is_k, is_k, is_k, is_k, trivial⟩
  ⟨fun f s W i j l m n a => opv rfl rfl (by simp [go_sem, a.e 7 k5_7, Joins.cell_of_block (blk_below nb4 i) 0, Joins.cell_of_block (blk_below nb4 i) 1, Joins.cell_of_block (blk_below nb4 i) 2, Joins.cell_of_block (blk_below nb4 i) 3, Joins.cell_of_block (blk_below nb4 i) 4, Joins.cell_of_block (blk_below nb4 i) 5, Joins.cell_of_block (blk_below nb4 i) 6]) rfl,
  fun f s W i j l m n a => opv rfl rfl (by simp [go_sem, a.e 4 k5_4, Joins.cell_of_block (blk_below b4_1 i) 0, Joins.cell_of_block (blk_below b4_1 i) 1]) rfl,
  fun f s W i j l m n a => opv rfl rfl (by simp [go_sem, a.e 8 k5_8]) rfl,
  fun f s W i j l m n a => opDo_call (args := #[.agg #[.int .i64 b.tab, .slice (some ⟨g1', 0, none⟩) (b.panels.length) (c4'), .int .i64 b.height, .slice (some ⟨g2', 0, none⟩) (b.top.length) (c5'), .slice (some ⟨g3', 0, none⟩) (b.bottom.length) (c6'), .int .i64 b.slot, .bool b.isOpen], .agg #[.int .i64 lo, .int .i64 hi], .slice (some ⟨g16', 0, none⟩) ((thing).length) (c17')]) rfl rfl (by simp [go_sem, a.e 30 (j 0 rfl), a.e 31 (j 1 rfl), a.e 32 (j 2 rfl)]) (holds_any _ b lo hi _ _ _ thing W ⟨_, _, _, _, _, _, _, _, _, rfl, ((q21'.below i (Nat.le_refl _))), ((q23'.below i (Nat.le_refl _))), ((q25'.below i (Nat.le_refl _)))⟩ (q27'.below i (Nat.le_refl _))) ((fun e W' h => ⟨_, h.1, h.2, by show (Value.tuple #[.bool (if holdsErr b (lo, hi) thing = 0 then fitsOf b hi thing else false), .bool (if holdsErr b (lo, hi) thing = 0 then fitsOf b lo thing else false), .int .i64 (holdsErr b (lo, hi) thing)]) = _; rw [(holds_e1 hx hn), if_neg (bne_iff_ne.1 hn), if_neg (bne_iff_ne.1 hn)]⟩)),
  fun f s W i j l m n a => opv rfl rfl (by simp [go_sem, a.e 33 (j 3 rfl)]) rfl,
  fun f s W i j l m n a => opv rfl rfl (by simp [go_sem, a.e 29 (j 4 rfl)]) rfl,
  fun f s W i j l m n a => opv rfl rfl (by simp [go_sem, a.e 29 (j 4 rfl)]) rfl,
  fun f s W i j l m n a => opv rfl rfl (by simp [go_sem, a.e 29 (j 4 rfl)]) rfl,
  fun f s W i j l m n a => opv rfl rfl (by simp [go_sem, a.e 34 (j 5 rfl)]) rfl,
  fun f s W i j l m n a => opv rfl rfl (by simp [go_sem, a.e 35 (j 6 rfl)]) rfl,
  fun f s W i j l m n a => opv rfl rfl (by simp [go_sem, a.e 36 (j 7 rfl)]) rfl, trivial⟩ ?_
 intro f6 s6 W6 hB6 g6 hg6
 have fB6 := below_trans fB4 hB6.below
 have z6 := hB6.below.size
 have b6_0 := blk_below b4_0 hB6.below
 have b6_1 := blk_below b4_1 hB6.below
 have b6_2 := blk_below nb4 hB6.below
 have q29' := (q21'.below hB6.below (Nat.le_refl _))
 have q30' := (Nat.lt_of_lt_of_le q22' (Below.size hB6.below))
 have q31' := (q23'.below hB6.below (Nat.le_refl _))
 have q32' := (Nat.lt_of_lt_of_le q24' (Below.size hB6.below))
 have q33' := (q25'.below hB6.below (Nat.le_refl _))
 have q34' := (Nat.lt_of_lt_of_le q26' (Below.size hB6.below))
 have q35' := q27'.below hB6.below (Nat.le_refl _)
 have q36' := (Nat.lt_of_lt_of_le q28' (Below.size hB6.below))
 refine hK6 _ _ ?_
 have k6_2 := kt hg6 2 k5_2
 have k6_3 := kt hg6 3 k5_3
 have k6_4 := kt hg6 4 k5_4
 have k6_6 := kt hg6 6 k5_6
 have k6_7 := kt hg6 7 k5_7
 have k6_8 := kt hg6 8 k5_8
 have k6_9 := kt hg6 9 (hB6.is 8)
 have k6_10 := kt hg6 10 (hB6.is 9)
 have k6_11 := kt hg6 11 (hB6.is 10)
 refine wp_seq_k fun K7 hK7 => ?_
 refine wp_seq_k fun K8 hK8 => ?_
 refine region_dk 10 [(37, 0), (38, 1), (39, 2), (40, 3), (41, 4), (42, 5), (43, 6), (44, 7), (45, 8), (46, 9)] [[], [], [0, 1], [0, 1, 2], [0, 1, 2, 3], [0, 1, 2, 3, 4], [0, 1, 2, 3, 4], [0, 1, 2, 3, 4, 5, 6], [0, 1, 2, 3, 4, 5, 6, 7], [0, 1, 2, 3, 4, 5, 6, 7, 8]] (rel [is (.agg #[.int .i64 b.tab, .slice (some ⟨g1', 0, none⟩) (b.panels.length) (c4'), .int .i64 b.height, .slice (some ⟨g2', 0, none⟩) (b.top.length) (c5'), .slice (some ⟨g3', 0, none⟩) (b.bottom.length) (c6'), .int .i64 b.slot, .bool b.isOpen]),
   is (.agg #[.int .i64 b.tab, .slice (a1) (b.panels.length) (c1), .int .i64 b.height, .slice (a2) (b.top.length) (c2), .slice (a3) (b.bottom.length) (c3), .int .i64 b.slot, .bool b.isOpen]),
   is (.bool true),
   is (.bool false),
   is (.bool false),
   gd (false) false (is (.slice (some ⟨g16', 0, none⟩) ((thing).length) (c17'))),
   gd (false) false (is (.slice (a4) (thing.length) (c4))),
   gd (false) false (is (.bool true)),
   gd (false) false (is (.bool false)),
   is (.bool false)])
  ⟨is_k, is_k, is_k, is_k, is_k, gd_k (is_k), gd_k (is_k), gd_k (is_k), gd_k (is_k), is_k, trivial⟩
  ⟨fun f s W i j l m n a => opv rfl rfl (by simp [go_sem, a.e 7 k6_7, Joins.cell_of_block (blk_below b6_2 i) 0, Joins.cell_of_block (blk_below b6_2 i) 1, Joins.cell_of_block (blk_below b6_2 i) 2, Joins.cell_of_block (blk_below b6_2 i) 3, Joins.cell_of_block (blk_below b6_2 i) 4, Joins.cell_of_block (blk_below b6_2 i) 5, Joins.cell_of_block (blk_below b6_2 i) 6]) rfl,
  fun f s W i j l m n a => opv rfl rfl (by simp [go_sem, a.e 3 k6_3, Joins.cell_of_block (blk_below b6_0 i) 0, Joins.cell_of_block (blk_below b6_0 i) 1, Joins.cell_of_block (blk_below b6_0 i) 2, Joins.cell_of_block (blk_below b6_0 i) 3, Joins.cell_of_block (blk_below b6_0 i) 4, Joins.cell_of_block (blk_below b6_0 i) 5, Joins.cell_of_block (blk_below b6_0 i) 6]) rfl,
  fun f s W i j l m n a => by have p := below_trans fB6 i; exact opDo_call (args := #[.agg #[.int .i64 b.tab, .slice (some ⟨g1', 0, none⟩) (b.panels.length) (c4'), .int .i64 b.height, .slice (some ⟨g2', 0, none⟩) (b.top.length) (c5'), .slice (some ⟨g3', 0, none⟩) (b.bottom.length) (c6'), .int .i64 b.slot, .bool b.isOpen], .agg #[.int .i64 b.tab, .slice (a1) (b.panels.length) (c1), .int .i64 b.height, .slice (a2) (b.top.length) (c2), .slice (a3) (b.bottom.length) (c3), .int .i64 b.slot, .bool b.isOpen]]) rfl rfl (by simp [go_sem, a.e 37 (j 0 rfl), a.e 38 (j 1 rfl)]) (same_blk (b := b) (d := b) ⟨_, _, _, _, _, _, _, _, _, rfl, ((q29'.below i (Nat.le_refl _))), ((q31'.below i (Nat.le_refl _))), ((q33'.below i (Nat.le_refl _)))⟩ ⟨_, _, _, _, _, _, _, _, _, rfl, (h1.below p (Nat.le_refl _)), (h2.below p (Nat.le_refl _)), (h3.below p (Nat.le_refl _))⟩) ((fun e W' h => by have h1 := h.1; rw [sameB_self] at h1; exact ⟨_, h1, h.2, rfl⟩)),
  fun f s W i j l m n a => opv rfl rfl (by simp [go_sem, a.e 39 (j 2 rfl)]) rfl,
  fun f s W i j l m n a => opv rfl rfl (by simp [go_sem, a.e 40 (j 3 rfl)]) rfl,
  fun f s W i j l m n a => gdo rfl rfl (a.says (d := 41) rfl rfl (j 4 rfl)) fun hgd0 => gv (by simp [go_sem, a.e 8 k6_8]) rfl,
  fun f s W i j l m n a => gdo rfl rfl (a.says (d := 41) rfl rfl (j 4 rfl)) fun hgd0 => gv (by simp [go_sem, a.e 2 k6_2]) rfl,
  fun f s W i j l m n a => gdo rfl rfl (a.says (d := 41) rfl rfl (j 4 rfl)) fun hgd0 => by have p := below_trans fB6 i; exact wp_called (args := #[.slice (some ⟨g16', 0, none⟩) ((thing).length) (c17'), .slice (a4) (thing.length) (c4)]) (by simp [go_sem, a.e 42 ((j 5 rfl).1 hgd0), a.e 43 ((j 6 rfl).1 hgd0)]) (intsEq_any _ _ thing _ _ thing W (q35'.below i (Nat.le_refl _)) (h4.below p (Nat.le_refl _))) ((fun e W' h => by have h1 := h.1; rw [beq_self_eq_true] at h1; exact ⟨_, h1, h.2, rfl⟩)),
  fun f s W i j l m n a => gdo rfl rfl (a.says (d := 41) rfl rfl (j 4 rfl)) fun hgd0 => gv (by simp [go_sem, a.e 44 ((j 7 rfl).1 hgd0)]) rfl,
  fun f s W i j l m n a => opk (c := false) rfl rfl (fun _ => by simp [go_sem, a.e 41 (j 4 rfl), a.e 45 ((j 8 rfl).1 rfl)]) (fun h => absurd h (by decide)), trivial⟩ ?_
 intro f7 s7 W7 hB7 g7 hg7
 have fB7 := below_trans fB6 hB7.below
 have z7 := hB7.below.size
 have b7_0 := blk_below b6_0 hB7.below
 have b7_1 := blk_below b6_1 hB7.below
 have b7_2 := blk_below b6_2 hB7.below
 have q37' := (q29'.below hB7.below (Nat.le_refl _))
 have q38' := (Nat.lt_of_lt_of_le q30' (Below.size hB7.below))
 have q39' := (q31'.below hB7.below (Nat.le_refl _))
 have q40' := (Nat.lt_of_lt_of_le q32' (Below.size hB7.below))
 have q41' := (q33'.below hB7.below (Nat.le_refl _))
 have q42' := (Nat.lt_of_lt_of_le q34' (Below.size hB7.below))
 have q43' := q35'.below hB7.below (Nat.le_refl _)
 have q44' := (Nat.lt_of_lt_of_le q36' (Below.size hB7.below))
 refine hK8 _ _ ?_
 have k7_2 := kt hg7 2 k6_2
 have k7_3 := kt hg7 3 k6_3
 have k7_4 := kt hg7 4 k6_4
 have k7_6 := kt hg7 6 k6_6
 have k7_9 := kt hg7 9 k6_9
 have k7_10 := kt hg7 10 k6_10
 have k7_11 := kt hg7 11 k6_11
 have k7_46 := kt hg7 46 (hB7.is 9)
 refine wp_cond_false ((fr_eval rfl).trans k7_46) ?_
 refine wp_skip ?_
 refine hK7 _ _ ?_
 refine wp_seq_k fun K10 hK10 => ?_
 refine region_dk 3 [(47, 0), (48, 1), (12, 2)] [[], [0], [0, 1]] (rel [is (.agg #[.int .i64 b.tab, .slice (a1) (b.panels.length) (c1), .int .i64 b.height, .slice (a2) (b.top.length) (c2), .slice (a3) (b.bottom.length) (c3), .int .i64 b.slot, .bool b.isOpen]),
   is (.int .i64 x),
   is (.int .i64 x)])
  ⟨is_k, is_k, is_k, trivial⟩
  ⟨fun f s W i j l m n a => opv rfl rfl (by simp [go_sem, a.e 3 k7_3, Joins.cell_of_block (blk_below b7_0 i) 0, Joins.cell_of_block (blk_below b7_0 i) 1, Joins.cell_of_block (blk_below b7_0 i) 2, Joins.cell_of_block (blk_below b7_0 i) 3, Joins.cell_of_block (blk_below b7_0 i) 4, Joins.cell_of_block (blk_below b7_0 i) 5, Joins.cell_of_block (blk_below b7_0 i) 6]) rfl,
  fun f s W i j l m n a => by have p := below_trans fB7 i; exact opDo_call (args := #[.agg #[.int .i64 b.tab, .slice (a1) (b.panels.length) (c1), .int .i64 b.height, .slice (a2) (b.top.length) (c2), .slice (a3) (b.bottom.length) (c3), .int .i64 b.slot, .bool b.isOpen]]) rfl rfl (by simp [go_sem, a.e 47 (j 0 rfl)]) (refCheck_blk ⟨_, _, _, _, _, _, _, _, _, rfl, (h1.below p (Nat.le_refl _)), (h2.below p (Nat.le_refl _)), (h3.below p (Nat.le_refl _))⟩) ((fun e W' h => by have h1 := h.1; rw [refCheck_eq, hx] at h1; exact ⟨_, h1, h.2, rfl⟩)),
  fun f s W i j l m n a => opv rfl rfl (by simp [go_sem, a.e 48 (j 1 rfl)]) rfl, trivial⟩ ?_
 intro f8 s8 W8 hB8 g8 hg8
 have fB8 := below_trans fB7 hB8.below
 have z8 := hB8.below.size
 have b8_0 := blk_below b7_0 hB8.below
 have b8_1 := blk_below b7_1 hB8.below
 have b8_2 := blk_below b7_2 hB8.below
 have q45' := (q37'.below hB8.below (Nat.le_refl _))
 have q46' := (Nat.lt_of_lt_of_le q38' (Below.size hB8.below))
 have q47' := (q39'.below hB8.below (Nat.le_refl _))
 have q48' := (Nat.lt_of_lt_of_le q40' (Below.size hB8.below))
 have q49' := (q41'.below hB8.below (Nat.le_refl _))
 have q50' := (Nat.lt_of_lt_of_le q42' (Below.size hB8.below))
 have q51' := q43'.below hB8.below (Nat.le_refl _)
 have q52' := (Nat.lt_of_lt_of_le q44' (Below.size hB8.below))
 refine hK10 _ _ ?_
 have k8_2 := kt hg8 2 k7_2
 have k8_3 := kt hg8 3 k7_3
 have k8_4 := kt hg8 4 k7_4
 have k8_6 := kt hg8 6 k7_6
 have k8_9 := kt hg8 9 k7_9
 have k8_10 := kt hg8 10 k7_10
 have k8_11 := kt hg8 11 k7_11
 have k8_12 := kt hg8 12 (hB8.is 2)
 refine wp_seq_k fun K11 hK11 => ?_
 refine wp_block ?_
 refine wp_seq_k fun K12 hK12 => ?_
 refine region_dk 3 [(50, 0), (51, 1), (49, 2)] [[], [0], [0, 1]] (rel [is (.int .i64 x),
   is (.bool true),
   is (.bool true)])
  ⟨is_k, is_k, is_k, trivial⟩
  ⟨fun f s W i j l m n a => opv rfl rfl (by simp [go_sem, a.e 12 k8_12]) rfl,
  fun f s W i j l m n a => opv rfl rfl (by simp [go_sem, a.e 50 (j 0 rfl), hn]) rfl,
  fun f s W i j l m n a => opv rfl rfl (by simp [go_sem, a.e 51 (j 1 rfl)]) rfl, trivial⟩ ?_
 intro f9 s9 W9 hB9 g9 hg9
 have fB9 := below_trans fB8 hB9.below
 have z9 := hB9.below.size
 have b9_0 := blk_below b8_0 hB9.below
 have b9_1 := blk_below b8_1 hB9.below
 have b9_2 := blk_below b8_2 hB9.below
 have q53' := (q45'.below hB9.below (Nat.le_refl _))
 have q54' := (Nat.lt_of_lt_of_le q46' (Below.size hB9.below))
 have q55' := (q47'.below hB9.below (Nat.le_refl _))
 have q56' := (Nat.lt_of_lt_of_le q48' (Below.size hB9.below))
 have q57' := (q49'.below hB9.below (Nat.le_refl _))
 have q58' := (Nat.lt_of_lt_of_le q50' (Below.size hB9.below))
 have q59' := q51'.below hB9.below (Nat.le_refl _)
 have q60' := (Nat.lt_of_lt_of_le q52' (Below.size hB9.below))
 refine hK12 _ _ ?_
 have k9_2 := kt hg9 2 k8_2
 have k9_3 := kt hg9 3 k8_3
 have k9_4 := kt hg9 4 k8_4
 have k9_6 := kt hg9 6 k8_6
 have k9_9 := kt hg9 9 k8_9
 have k9_10 := kt hg9 10 k8_10
 have k9_11 := kt hg9 11 k8_11
 have k9_12 := kt hg9 12 k8_12
 have k9_49 := kt hg9 49 (hB9.is 2)
 refine wp_cond_true ((fr_eval rfl).trans k9_49) ?_
 refine wp_skip ?_
 refine inBlock_normal ?_
 refine hK11 _ _ ?_
 refine wp_seq_k fun K14 hK14 => ?_
 refine wp_seq_k fun K15 hK15 => ?_
 refine region_dk 2 [(64, 0), (65, 1)] [[], [0]] (rel [is (.int .i64 x),
   is (.bool true)])
  ⟨is_k, is_k, trivial⟩
  ⟨fun f s W i j l m n a => opv rfl rfl (by simp [go_sem, a.e 12 k9_12]) rfl,
  fun f s W i j l m n a => opv rfl rfl (by simp [go_sem, a.e 64 (j 0 rfl), hn]) rfl, trivial⟩ ?_
 intro f10 s10 W10 hB10 g10 hg10
 have fB10 := below_trans fB9 hB10.below
 have z10 := hB10.below.size
 have b10_0 := blk_below b9_0 hB10.below
 have b10_1 := blk_below b9_1 hB10.below
 have b10_2 := blk_below b9_2 hB10.below
 have q61' := (q53'.below hB10.below (Nat.le_refl _))
 have q62' := (Nat.lt_of_lt_of_le q54' (Below.size hB10.below))
 have q63' := (q55'.below hB10.below (Nat.le_refl _))
 have q64' := (Nat.lt_of_lt_of_le q56' (Below.size hB10.below))
 have q65' := (q57'.below hB10.below (Nat.le_refl _))
 have q66' := (Nat.lt_of_lt_of_le q58' (Below.size hB10.below))
 have q67' := q59'.below hB10.below (Nat.le_refl _)
 have q68' := (Nat.lt_of_lt_of_le q60' (Below.size hB10.below))
 refine hK15 _ _ ?_
 have k10_2 := kt hg10 2 k9_2
 have k10_3 := kt hg10 3 k9_3
 have k10_4 := kt hg10 4 k9_4
 have k10_6 := kt hg10 6 k9_6
 have k10_9 := kt hg10 9 k9_9
 have k10_10 := kt hg10 10 k9_10
 have k10_11 := kt hg10 11 k9_11
 have k10_12 := kt hg10 12 k9_12
 have k10_65 := kt hg10 65 (hB10.is 1)
 refine wp_cond_true ((fr_eval rfl).trans k10_65) ?_
 refine wp_seq_k fun K17 hK17 => ?_
 refine region_dk 15 [(66, 0), (67, 1), (68, 2), (69, 3), (70, 4), (71, 5), (72, 6), (73, 7), (74, 8), (75, 9), (76, 10), (77, 11), (78, 12), (79, 13), (6, 14)] [[], [], [0, 1], [0, 1, 2], [0, 1, 2, 3], [0, 1, 2, 3, 4], [0, 1, 2, 3, 4, 5], [0, 1, 2, 3, 4, 5, 6], [0, 1, 2, 3, 4, 5, 6, 7], [0, 1, 2, 3, 4, 5, 6, 7, 8], [0, 1, 2, 3, 4, 5, 6, 7, 8, 9], [0, 1, 2, 3, 4, 5, 6, 7, 8, 9, 10], [0, 1, 2, 3, 4, 5, 6, 7, 8, 9, 10, 11], [0, 1, 2, 3, 4, 5, 6, 7, 8, 9, 10, 11, 12], [0, 1, 2, 3, 4, 5, 6, 7, 8, 9, 10, 11, 12, 13]] (rel [is (.int .i64 x),
   is (.int .i64 x),
   is (.bool true),
   is (.bool true),
   gd (true) true (is (.bool false)),
   gd (true) true (is (.bool true)),
   is (.bool true),
   is (.bool true),
   gd (true) true (is (.bool false)),
   gd (true) true (is (.bool true)),
   is (.bool true),
   is (.bool true),
   gd (true) true (is (.bool true)),
   is (.bool true),
   is (.bool true)])
  ⟨is_k, is_k, is_k, is_k, gd_k (is_k), gd_k (is_k), is_k, is_k, gd_k (is_k), gd_k (is_k), is_k, is_k, gd_k (is_k), is_k, is_k, trivial⟩
  ⟨fun f s W i j l m n a => opv rfl rfl (by simp [go_sem, a.e 11 k10_11]) rfl,
  fun f s W i j l m n a => opv rfl rfl (by simp [go_sem, a.e 12 k10_12]) rfl,
  fun f s W i j l m n a => opv rfl rfl (by simp [go_sem, a.e 66 (j 0 rfl), a.e 67 (j 1 rfl)]) rfl,
  fun f s W i j l m n a => opv rfl rfl (by simp [go_sem, a.e 68 (j 2 rfl)]) rfl,
  fun f s W i j l m n a => gdo rfl rfl (a.says (d := 69) rfl rfl (j 3 rfl)) fun hgd0 => gv (by simp [go_sem, a.e 9 k10_9]) rfl,
  fun f s W i j l m n a => gdo rfl rfl (a.says (d := 69) rfl rfl (j 3 rfl)) fun hgd0 => gv (by simp [go_sem, a.e 70 ((j 4 rfl).1 hgd0)]) rfl,
  fun f s W i j l m n a => opk (c := true) rfl rfl (fun h => absurd h (by decide)) (fun _ => by simp [go_sem, a.e 69 (j 3 rfl), a.e 71 ((j 5 rfl).1 rfl)]),
  fun f s W i j l m n a => opv rfl rfl (by simp [go_sem, a.e 72 (j 6 rfl)]) rfl,
  fun f s W i j l m n a => gdo rfl rfl (a.says (d := 73) rfl rfl (j 7 rfl)) fun hgd0 => gv (by simp [go_sem, a.e 10 k10_10]) rfl,
  fun f s W i j l m n a => gdo rfl rfl (a.says (d := 73) rfl rfl (j 7 rfl)) fun hgd0 => gv (by simp [go_sem, a.e 74 ((j 8 rfl).1 hgd0)]) rfl,
  fun f s W i j l m n a => opk (c := true) rfl rfl (fun h => absurd h (by decide)) (fun _ => by simp [go_sem, a.e 73 (j 7 rfl), a.e 75 ((j 9 rfl).1 rfl)]),
  fun f s W i j l m n a => opv rfl rfl (by simp [go_sem, a.e 76 (j 10 rfl)]) rfl,
  fun f s W i j l m n a => gdo rfl rfl (a.says (d := 77) rfl rfl (j 11 rfl)) fun hgd0 => gc (by simp [go_sem]) (known_any W),
  fun f s W i j l m n a => opk (c := true) rfl rfl (fun h => absurd h (by decide)) (fun _ => by simp [go_sem, a.e 77 (j 11 rfl), a.e 78 ((j 12 rfl).1 rfl)]),
  fun f s W i j l m n a => opv rfl rfl (by simp [go_sem, a.e 79 (j 13 rfl)]) rfl, trivial⟩ ?_
 intro f11 s11 W11 hB11 g11 hg11
 have fB11 := below_trans fB10 hB11.below
 have z11 := hB11.below.size
 have b11_0 := blk_below b10_0 hB11.below
 have b11_1 := blk_below b10_1 hB11.below
 have b11_2 := blk_below b10_2 hB11.below
 have q69' := (q61'.below hB11.below (Nat.le_refl _))
 have q70' := (Nat.lt_of_lt_of_le q62' (Below.size hB11.below))
 have q71' := (q63'.below hB11.below (Nat.le_refl _))
 have q72' := (Nat.lt_of_lt_of_le q64' (Below.size hB11.below))
 have q73' := (q65'.below hB11.below (Nat.le_refl _))
 have q74' := (Nat.lt_of_lt_of_le q66' (Below.size hB11.below))
 have q75' := q67'.below hB11.below (Nat.le_refl _)
 have q76' := (Nat.lt_of_lt_of_le q68' (Below.size hB11.below))
 refine hK17 _ _ ?_
 have k11_2 := kt hg11 2 k10_2
 have k11_3 := kt hg11 3 k10_3
 have k11_4 := kt hg11 4 k10_4
 have k11_9 := kt hg11 9 k10_9
 have k11_10 := kt hg11 10 k10_10
 have k11_11 := kt hg11 11 k10_11
 have k11_6 := kt hg11 6 (hB11.is 14)
 refine wp_ret ?_
 refine then_ret ?_
 refine leave_one (N := 115) (v := .bool true) (.inr rfl) Try.results5 rfl k11_6 ?_
 exact ⟨rfl, fB11⟩
set_option maxRecDepth 100000 in
set_option maxHeartbeats 2000000 in
theorem holds_bad2 (a1 a2 a3 : Option Addr) (c1 c2 c3 : Nat) (b : Bl) (lo hi : Int) (a4 : Option Addr) (c4 : Nat) (thing : List Int) (w : World) (h1 : Ii w a1 b.panels.length c1 b.panels) (h2 : Ii w a2 b.top.length c2 b.top) (h3 : Ii w a3 b.bottom.length c3 b.bottom) (h4 : Ii w a4 thing.length c4 thing) (hl : largeB b = false) (ht : decide (10 < (thing.length : Int)) = false) (hck : checkErr b = 0) (hsp : isSpan (lo, hi) 1 10000 = false) :
  Calls Try.prog 5 #[.agg #[.int .i64 b.tab, .slice (a1) (b.panels.length) (c1), .int .i64 b.height, .slice (a2) (b.top.length) (c2), .slice (a3) (b.bottom.length) (c3), .int .i64 b.slot, .bool b.isOpen], .agg #[.int .i64 lo, .int .i64 hi], .slice (a4) (thing.length) (c4)] w (fun e w' => e = .returned (.bool true) ∧ Below w.heap.size w w') := by
 have hm1 := h1.len_le
 have hm2 := h2.len_le
 have hm3 := h3.len_le
 obtain ⟨m1, m2, m3⟩ := large_false hl
 have n1 : b.panels.length ≤ 1000 := by omega
 have n2 : b.top.length ≤ 1000 := by omega
 have n3 : b.bottom.length ≤ 1000 := by omega
 have hm4 := h4.len_le
 have ht' : ¬ 10 < (thing.length : Int) := of_decide_eq_false ht
 have n4 : thing.length ≤ 1000 := by omega
 refine calls_fr Try.func5 Try.ntmps5 rfl rfl fun g hg => ?_
 have k0 : g 0 = .agg #[.int .i64 b.tab, .slice (a1) (b.panels.length) (c1), .int .i64 b.height, .slice (a2) (b.top.length) (c2), .slice (a3) (b.bottom.length) (c3), .int .i64 b.slot, .bool b.isOpen] := hg 0
 have k1 : g 1 = .agg #[.int .i64 lo, .int .i64 hi] := hg 1
 have k2 : g 2 = .slice (a4) (thing.length) (c4) := hg 2
 clear hg
 have fB0 : Below w.heap.size w w := Below.refl _ _
 refine wp_seq_k fun K1 hK1 => ?_
 refine region_dk 3 [(3, 0), (4, 1), (6, 2)] [[], [], []] (rel [bx 0 #[.int .i64 b.tab, .slice (a1) (b.panels.length) (c1), .int .i64 b.height, .slice (a2) (b.top.length) (c2), .slice (a3) (b.bottom.length) (c3), .int .i64 b.slot, .bool b.isOpen] 24,
   bx 1 #[.int .i64 lo, .int .i64 hi] 37,
   is (.bool false)])
  ⟨bx_k, bx_k, is_k, trivial⟩
  ⟨fun f s W i j l m n a => opb rfl rfl (by simp [go_sem, a.e 0 k0]),
  fun f s W i j l m n a => opb rfl rfl (by simp [go_sem, a.e 1 k1]),
  fun f s W i j l m n a => opv rfl rfl (by simp [go_sem]) rfl, trivial⟩ ?_
 intro f1 s1 W1 hB1 g1 hg1
 have fB1 := below_trans fB0 hB1.below
 have z1 := hB1.below.size
 obtain ⟨r1_0, br1_0⟩ := hB1.is 0
 have lr1_0 := hB1.lr 0 br1_0
 obtain ⟨r1_1, br1_1⟩ := hB1.is 1
 have lr1_1 := hB1.lr 1 br1_1
 have ne1_0_1 := hB1.nb 0 1
 refine hK1 _ _ ?_
 have k1_2 := kt hg1 2 k2
 have k1_3 := kt hg1 3 r1_0
 have k1_4 := kt hg1 4 r1_1
 have k1_6 := kt hg1 6 (hB1.is 2)
 refine wp_seq_k fun K2 hK2 => ?_
 refine wp_seq_k fun K3 hK3 => ?_
 refine region_dk 7 [(17, 0), (18, 1), (19, 2), (20, 3), (21, 4), (22, 5), (23, 6)] [[], [0], [0, 1], [0, 1, 2], [0, 1, 2, 3], [0, 1, 2, 3, 4], [0, 1, 2, 3, 4, 5]] (rel [is (.agg #[.int .i64 b.tab, .slice (a1) (b.panels.length) (c1), .int .i64 b.height, .slice (a2) (b.top.length) (c2), .slice (a3) (b.bottom.length) (c3), .int .i64 b.slot, .bool b.isOpen]),
   is (.bool false),
   is (.bool false),
   gd (false) false (is (.slice (a4) (thing.length) (c4))),
   gd (false) false (is (.int .i64 ((thing.length : Int)))),
   gd (false) false (is (.bool (decide (10 < (thing.length : Int))))),
   is (.bool (decide (10 < (thing.length : Int))))])
  ⟨is_k, is_k, is_k, gd_k (is_k), gd_k (is_k), gd_k (is_k), is_k, trivial⟩
  ⟨fun f s W i j l m n a => opv rfl rfl (by simp [go_sem, a.e 3 k1_3, Joins.cell_of_block (blk_below br1_0 i) 0, Joins.cell_of_block (blk_below br1_0 i) 1, Joins.cell_of_block (blk_below br1_0 i) 2, Joins.cell_of_block (blk_below br1_0 i) 3, Joins.cell_of_block (blk_below br1_0 i) 4, Joins.cell_of_block (blk_below br1_0 i) 5, Joins.cell_of_block (blk_below br1_0 i) 6]) rfl,
  fun f s W i j l m n a => by have p := below_trans fB1 i; exact opDo_call rfl rfl (by simp [go_sem, a.e 17 (j 0 rfl)]) (large_any a1 a2 a3 c1 c2 c3 b W (h1.below p (Nat.le_refl _)) (h2.below p (Nat.le_refl _)) (h3.below p (Nat.le_refl _))) ((fun e W' h => by have h1 := h.1; rw [hl] at h1; exact ⟨_, h1, h.2, rfl⟩)),
  fun f s W i j l m n a => opv rfl rfl (by simp [go_sem, a.e 18 (j 1 rfl)]) rfl,
  fun f s W i j l m n a => gdo rfl rfl (a.says (d := 19) rfl rfl (j 2 rfl)) fun hgd0 => gv (by simp [go_sem, a.e 2 k1_2]) rfl,
  fun f s W i j l m n a => gdo rfl rfl (a.says (d := 19) rfl rfl (j 2 rfl)) fun hgd0 => gv (by simp [go_sem, a.e 20 ((j 3 rfl).1 hgd0)]) rfl,
  fun f s W i j l m n a => gdo rfl rfl (a.says (d := 19) rfl rfl (j 2 rfl)) fun hgd0 => gv (by simp [go_sem, a.e 21 ((j 4 rfl).1 hgd0)]) rfl,
  fun f s W i j l m n a => opk (c := false) rfl rfl (fun _ => by simp [go_sem, a.e 19 (j 2 rfl), a.e 22 ((j 5 rfl).1 rfl)]) (fun h => absurd h (by decide)), trivial⟩ ?_
 intro f2 s2 W2 hB2 g2 hg2
 have fB2 := below_trans fB1 hB2.below
 have z2 := hB2.below.size
 have b2_0 := blk_below br1_0 hB2.below
 have b2_1 := blk_below br1_1 hB2.below
 refine hK3 _ _ ?_
 have k2_2 := kt hg2 2 k1_2
 have k2_3 := kt hg2 3 k1_3
 have k2_4 := kt hg2 4 k1_4
 have k2_6 := kt hg2 6 k1_6
 have k2_23 := kt hg2 23 (hB2.is 6)
 have hc4 : (fr 115 g2).eval (.tmp 23) = .bool false := ((fr_eval rfl).trans k2_23).trans (by rw [ht])
 refine wp_cond_false (hc4) ?_
 refine wp_skip ?_
 refine hK2 _ _ ?_
 refine wp_seq_k fun K5 hK5 => ?_
 refine region_dk 5 [(25, 0), (26, 1), (27, 2), (28, 3), (7, 4), (8, 6)] [[], [0], [], [0, 1, 2], [], [0, 1, 2, 3, 4], [0, 1, 2, 3, 4, 5]] (rel [is (.agg #[.int .i64 b.tab, .slice (a1) (b.panels.length) (c1), .int .i64 b.height, .slice (a2) (b.top.length) (c2), .slice (a3) (b.bottom.length) (c3), .int .i64 b.slot, .bool b.isOpen]),
   fun v s W => NwBlk (s 1) (b) v W,
   is (.slice (a4) (thing.length) (c4)),
   fun v s W => NwIi (s 3) (thing) v W,
   bx 4 #[.int .i64 0, .slice (none) (0) (0), .int .i64 0, .slice (none) (0) (0), .slice (none) (0) (0), .int .i64 0, .bool false] 24])
  ⟨is_k, ⟨fun v k W W' hb h => h.below hb, fun v s s' W e h => by have h' : NwBlk (s 1) (b) v W := h; show NwBlk (s' 1) (b) v W; rw [← e 1 (by simp)]; exact h'⟩, is_k, ⟨fun v k W W' hb h => h.below hb, fun v s s' W e h => by have h' : NwIi (s 3) (thing) v W := h; show NwIi (s' 3) (thing) v W; rw [← e 3 (by simp)]; exact h'⟩, bx_k, trivial⟩
  ⟨fun f s W i j l m n a => opv rfl rfl (by simp [go_sem, a.e 3 k2_3, Joins.cell_of_block (blk_below b2_0 i) 0, Joins.cell_of_block (blk_below b2_0 i) 1, Joins.cell_of_block (blk_below b2_0 i) 2, Joins.cell_of_block (blk_below b2_0 i) 3, Joins.cell_of_block (blk_below b2_0 i) 4, Joins.cell_of_block (blk_below b2_0 i) 5, Joins.cell_of_block (blk_below b2_0 i) 6]) rfl,
  fun f s W i j l m n a => by have p := below_trans fB2 i; exact opDo_call rfl rfl (by simp [go_sem, a.e 25 (j 0 rfl)]) (own_any a1 a2 a3 c1 c2 c3 b W (h1.below p (Nat.le_refl _)) (h2.below p (Nat.le_refl _)) (h3.below p (Nat.le_refl _)) n1 n2 n3) (fun e W' h => by obtain ⟨v, e1, h1, h2⟩ := h; exact ⟨v, e1, h2, (show NwBlk (upd s 1 W.heap.size 1) (b) v W' from by rw [upd_at]; exact h1)⟩),
  fun f s W i j l m n a => opv rfl rfl (by simp [go_sem, a.e 2 k2_2]) rfl,
  fun f s W i j l m n a => by have p := below_trans fB2 i; exact opDo_call rfl rfl (by simp [go_sem, a.e 27 (j 2 rfl)]) (ints_any a4 c4 thing W (h4.below p (Nat.le_refl _)) n4) (fun e W' h => by obtain ⟨v, e1, h1, h2⟩ := h; exact ⟨v, e1, h2, (show NwIi (upd s 3 W.heap.size 3) (thing) v W' from by rw [upd_at]; exact h1)⟩),
  fun f s W i j l m n a => opb rfl rfl (by simp [go_sem]), trivial⟩ ?_
 intro f3 s3 W3 hB3 g3 hg3
 have fB3 := below_trans fB2 hB3.below
 have z3 := hB3.below.size
 have b3_0 := blk_below b2_0 hB3.below
 have b3_1 := blk_below b2_1 hB3.below
 have la3_1_1 := hB3.from' 1 (by decide)
 obtain ⟨g77', c80', g78', c81', g79', c82', r3_1, ⟨q83', q85', q84'⟩, ⟨q86', q88', q87'⟩, ⟨q89', q91', q90'⟩⟩ := hB3.is 1
 obtain ⟨g92', c93', r3_3, q94', q96', q95'⟩ := hB3.is 3
 obtain ⟨r3_4, br3_4⟩ := hB3.is 4
 have lr3_4 := hB3.lr 4 br3_4
 have la3_1 := hB3.from' 1 (by decide)
 have of3_1_4_0 := hB3.off 1 4 (by decide) (by decide) (by decide) q85' (fun W h => (NwBlk.lt h r3_1).1) (fun _ _ _ h => lt_of_blk h.2)
 have of3_1_4_1 := hB3.off 1 4 (by decide) (by decide) (by decide) q88' (fun W h => (NwBlk.lt h r3_1).2.1) (fun _ _ _ h => lt_of_blk h.2)
 have of3_1_4_2 := hB3.off 1 4 (by decide) (by decide) (by decide) q91' (fun W h => (NwBlk.lt h r3_1).2.2) (fun _ _ _ h => lt_of_blk h.2)
 have la3_3 := hB3.from' 3 (by decide)
 have of3_3_4_0 := hB3.off 3 4 (by decide) (by decide) (by decide) q96' (fun W h => NwIi.lt h r3_3) (fun _ _ _ h => lt_of_blk h.2)
 have k3_2 := kt hg3 2 k2_2
 have k3_3 := kt hg3 3 k2_3
 have k3_4 := kt hg3 4 k2_4
 have k3_6 := kt hg3 6 k2_6
 have k3_26 := kt hg3 26 r3_1
 have k3_28 := kt hg3 28 r3_3
 have k3_7 := kt hg3 7 r3_4
 obtain ⟨W4, hW4⟩ : ∃ W', W' = W3.setRow (s3 4) #[.int .i64 b.tab, .slice (some ⟨g77', 0, none⟩) (b.panels.length) (c80'), .int .i64 b.height, .slice (some ⟨g78', 0, none⟩) (b.top.length) (c81'), .slice (some ⟨g79', 0, none⟩) (b.bottom.length) (c82'), .int .i64 b.slot, .bool b.isOpen] := ⟨_, rfl⟩
 refine tail_skip (o := _) rfl ⟨rfl, rfl⟩ (run_seg hW4 (fr_ev k3_7) (fr_ev k3_26) br3_4 rfl rfl rfl rfl) ?_
 obtain ⟨fB4, nb4, ot4, z4⟩ := seg_facts hW4 fB3 br3_4 (by omega)
 clear hW4
 have b4_0 := ot4 _ _ (by omega) b3_0
 have b4_1 := ot4 _ _ (by omega) b3_1
 have q97' := (q83'.other ot4 q84' (by omega) z4)
 have q98' := Nat.lt_of_lt_of_le q84' z4
 have q99' := (q86'.other ot4 q87' (by omega) z4)
 have q100' := Nat.lt_of_lt_of_le q87' z4
 have q101' := (q89'.other ot4 q90' (by omega) z4)
 have q102' := Nat.lt_of_lt_of_le q90' z4
 have q103' := (q94'.other ot4 q95' (by omega) z4)
 have q104' := Nat.lt_of_lt_of_le q95' z4
 refine tail_value (o := _) rfl rfl rfl (v := .slice (some ⟨g92', 0, none⟩) ((thing).length) (c93')) (by simp [go_sem, frv 115 k3_28]) ?_
 generalize hg5 : upd g3 8 (.slice (some ⟨g92', 0, none⟩) ((thing).length) (c93')) = g5
 have k5_2 := ku hg5 2 k3_2
 have k5_3 := ku hg5 3 k3_3
 have k5_4 := ku hg5 4 k3_4
 have k5_6 := ku hg5 6 k3_6
 have k5_7 := ku hg5 7 k3_7
 have k5_8 := kt hg5 8 (upd_same _ _ _)
 refine wpOps_end ?_
 refine hK5 _ _ ?_
 refine wp_seq_k fun K6 hK6 => ?_
 refine region_dk 11 [(30, 0), (31, 1), (32, 2), (33, 3), (29, 4), (34, 5), (35, 6), (36, 7), (9, 8), (10, 9), (11, 10)] [[], [], [], [0, 1, 2], [0, 1, 2, 3], [0, 1, 2, 3, 4], [0, 1, 2, 3, 4], [0, 1, 2, 3, 4], [0, 1, 2, 3, 4, 5], [0, 1, 2, 3, 4, 5, 6, 8], [0, 1, 2, 3, 4, 5, 6, 7, 8, 9]] (rel [is (.agg #[.int .i64 b.tab, .slice (some ⟨g77', 0, none⟩) (b.panels.length) (c80'), .int .i64 b.height, .slice (some ⟨g78', 0, none⟩) (b.top.length) (c81'), .slice (some ⟨g79', 0, none⟩) (b.bottom.length) (c82'), .int .i64 b.slot, .bool b.isOpen]),
   is (.agg #[.int .i64 lo, .int .i64 hi]),
   is (.slice (some ⟨g92', 0, none⟩) ((thing).length) (c93')),
   is (.tuple #[.bool false, .bool false, .int .i64 3]),
   is (.tuple #[.bool false, .bool false, .int .i64 3]),
   is (.bool false),
   is (.bool false),
   is (.int .i64 3),
   is (.bool false),
   is (.bool false),
   is (.int .i64 3)])
  ⟨is_k, is_k, is_k, is_k, is_k, is_k, is_k, is_k, is_k, is_k, is_k, trivial⟩
  ⟨fun f s W i j l m n a => opv rfl rfl (by simp [go_sem, a.e 7 k5_7, Joins.cell_of_block (blk_below nb4 i) 0, Joins.cell_of_block (blk_below nb4 i) 1, Joins.cell_of_block (blk_below nb4 i) 2, Joins.cell_of_block (blk_below nb4 i) 3, Joins.cell_of_block (blk_below nb4 i) 4, Joins.cell_of_block (blk_below nb4 i) 5, Joins.cell_of_block (blk_below nb4 i) 6]) rfl,
  fun f s W i j l m n a => opv rfl rfl (by simp [go_sem, a.e 4 k5_4, Joins.cell_of_block (blk_below b4_1 i) 0, Joins.cell_of_block (blk_below b4_1 i) 1]) rfl,
  fun f s W i j l m n a => opv rfl rfl (by simp [go_sem, a.e 8 k5_8]) rfl,
  fun f s W i j l m n a => opDo_call (args := #[.agg #[.int .i64 b.tab, .slice (some ⟨g77', 0, none⟩) (b.panels.length) (c80'), .int .i64 b.height, .slice (some ⟨g78', 0, none⟩) (b.top.length) (c81'), .slice (some ⟨g79', 0, none⟩) (b.bottom.length) (c82'), .int .i64 b.slot, .bool b.isOpen], .agg #[.int .i64 lo, .int .i64 hi], .slice (some ⟨g92', 0, none⟩) ((thing).length) (c93')]) rfl rfl (by simp [go_sem, a.e 30 (j 0 rfl), a.e 31 (j 1 rfl), a.e 32 (j 2 rfl)]) (holds_any _ b lo hi _ _ _ thing W ⟨_, _, _, _, _, _, _, _, _, rfl, ((q97'.below i (Nat.le_refl _))), ((q99'.below i (Nat.le_refl _))), ((q101'.below i (Nat.le_refl _)))⟩ (q103'.below i (Nat.le_refl _))) ((fun e W' h => ⟨_, h.1, h.2, by show (Value.tuple #[.bool (if holdsErr b (lo, hi) thing = 0 then fitsOf b hi thing else false), .bool (if holdsErr b (lo, hi) thing = 0 then fitsOf b lo thing else false), .int .i64 (holdsErr b (lo, hi) thing)]) = _; rw [(holds_e2 hck hsp), if_neg (by decide), if_neg (by decide)]⟩)),
  fun f s W i j l m n a => opv rfl rfl (by simp [go_sem, a.e 33 (j 3 rfl)]) rfl,
  fun f s W i j l m n a => opv rfl rfl (by simp [go_sem, a.e 29 (j 4 rfl)]) rfl,
  fun f s W i j l m n a => opv rfl rfl (by simp [go_sem, a.e 29 (j 4 rfl)]) rfl,
  fun f s W i j l m n a => opv rfl rfl (by simp [go_sem, a.e 29 (j 4 rfl)]) rfl,
  fun f s W i j l m n a => opv rfl rfl (by simp [go_sem, a.e 34 (j 5 rfl)]) rfl,
  fun f s W i j l m n a => opv rfl rfl (by simp [go_sem, a.e 35 (j 6 rfl)]) rfl,
  fun f s W i j l m n a => opv rfl rfl (by simp [go_sem, a.e 36 (j 7 rfl)]) rfl, trivial⟩ ?_
 intro f6 s6 W6 hB6 g6 hg6
 have fB6 := below_trans fB4 hB6.below
 have z6 := hB6.below.size
 have b6_0 := blk_below b4_0 hB6.below
 have b6_1 := blk_below b4_1 hB6.below
 have b6_2 := blk_below nb4 hB6.below
 have q105' := (q97'.below hB6.below (Nat.le_refl _))
 have q106' := (Nat.lt_of_lt_of_le q98' (Below.size hB6.below))
 have q107' := (q99'.below hB6.below (Nat.le_refl _))
 have q108' := (Nat.lt_of_lt_of_le q100' (Below.size hB6.below))
 have q109' := (q101'.below hB6.below (Nat.le_refl _))
 have q110' := (Nat.lt_of_lt_of_le q102' (Below.size hB6.below))
 have q111' := q103'.below hB6.below (Nat.le_refl _)
 have q112' := (Nat.lt_of_lt_of_le q104' (Below.size hB6.below))
 refine hK6 _ _ ?_
 have k6_2 := kt hg6 2 k5_2
 have k6_3 := kt hg6 3 k5_3
 have k6_4 := kt hg6 4 k5_4
 have k6_6 := kt hg6 6 k5_6
 have k6_7 := kt hg6 7 k5_7
 have k6_8 := kt hg6 8 k5_8
 have k6_9 := kt hg6 9 (hB6.is 8)
 have k6_10 := kt hg6 10 (hB6.is 9)
 have k6_11 := kt hg6 11 (hB6.is 10)
 refine wp_seq_k fun K7 hK7 => ?_
 refine wp_seq_k fun K8 hK8 => ?_
 refine region_dk 10 [(37, 0), (38, 1), (39, 2), (40, 3), (41, 4), (42, 5), (43, 6), (44, 7), (45, 8), (46, 9)] [[], [], [0, 1], [0, 1, 2], [0, 1, 2, 3], [0, 1, 2, 3, 4], [0, 1, 2, 3, 4], [0, 1, 2, 3, 4, 5, 6], [0, 1, 2, 3, 4, 5, 6, 7], [0, 1, 2, 3, 4, 5, 6, 7, 8]] (rel [is (.agg #[.int .i64 b.tab, .slice (some ⟨g77', 0, none⟩) (b.panels.length) (c80'), .int .i64 b.height, .slice (some ⟨g78', 0, none⟩) (b.top.length) (c81'), .slice (some ⟨g79', 0, none⟩) (b.bottom.length) (c82'), .int .i64 b.slot, .bool b.isOpen]),
   is (.agg #[.int .i64 b.tab, .slice (a1) (b.panels.length) (c1), .int .i64 b.height, .slice (a2) (b.top.length) (c2), .slice (a3) (b.bottom.length) (c3), .int .i64 b.slot, .bool b.isOpen]),
   is (.bool true),
   is (.bool false),
   is (.bool false),
   gd (false) false (is (.slice (some ⟨g92', 0, none⟩) ((thing).length) (c93'))),
   gd (false) false (is (.slice (a4) (thing.length) (c4))),
   gd (false) false (is (.bool true)),
   gd (false) false (is (.bool false)),
   is (.bool false)])
  ⟨is_k, is_k, is_k, is_k, is_k, gd_k (is_k), gd_k (is_k), gd_k (is_k), gd_k (is_k), is_k, trivial⟩
  ⟨fun f s W i j l m n a => opv rfl rfl (by simp [go_sem, a.e 7 k6_7, Joins.cell_of_block (blk_below b6_2 i) 0, Joins.cell_of_block (blk_below b6_2 i) 1, Joins.cell_of_block (blk_below b6_2 i) 2, Joins.cell_of_block (blk_below b6_2 i) 3, Joins.cell_of_block (blk_below b6_2 i) 4, Joins.cell_of_block (blk_below b6_2 i) 5, Joins.cell_of_block (blk_below b6_2 i) 6]) rfl,
  fun f s W i j l m n a => opv rfl rfl (by simp [go_sem, a.e 3 k6_3, Joins.cell_of_block (blk_below b6_0 i) 0, Joins.cell_of_block (blk_below b6_0 i) 1, Joins.cell_of_block (blk_below b6_0 i) 2, Joins.cell_of_block (blk_below b6_0 i) 3, Joins.cell_of_block (blk_below b6_0 i) 4, Joins.cell_of_block (blk_below b6_0 i) 5, Joins.cell_of_block (blk_below b6_0 i) 6]) rfl,
  fun f s W i j l m n a => by have p := below_trans fB6 i; exact opDo_call (args := #[.agg #[.int .i64 b.tab, .slice (some ⟨g77', 0, none⟩) (b.panels.length) (c80'), .int .i64 b.height, .slice (some ⟨g78', 0, none⟩) (b.top.length) (c81'), .slice (some ⟨g79', 0, none⟩) (b.bottom.length) (c82'), .int .i64 b.slot, .bool b.isOpen], .agg #[.int .i64 b.tab, .slice (a1) (b.panels.length) (c1), .int .i64 b.height, .slice (a2) (b.top.length) (c2), .slice (a3) (b.bottom.length) (c3), .int .i64 b.slot, .bool b.isOpen]]) rfl rfl (by simp [go_sem, a.e 37 (j 0 rfl), a.e 38 (j 1 rfl)]) (same_blk (b := b) (d := b) ⟨_, _, _, _, _, _, _, _, _, rfl, ((q105'.below i (Nat.le_refl _))), ((q107'.below i (Nat.le_refl _))), ((q109'.below i (Nat.le_refl _)))⟩ ⟨_, _, _, _, _, _, _, _, _, rfl, (h1.below p (Nat.le_refl _)), (h2.below p (Nat.le_refl _)), (h3.below p (Nat.le_refl _))⟩) ((fun e W' h => by have h1 := h.1; rw [sameB_self] at h1; exact ⟨_, h1, h.2, rfl⟩)),
  fun f s W i j l m n a => opv rfl rfl (by simp [go_sem, a.e 39 (j 2 rfl)]) rfl,
  fun f s W i j l m n a => opv rfl rfl (by simp [go_sem, a.e 40 (j 3 rfl)]) rfl,
  fun f s W i j l m n a => gdo rfl rfl (a.says (d := 41) rfl rfl (j 4 rfl)) fun hgd0 => gv (by simp [go_sem, a.e 8 k6_8]) rfl,
  fun f s W i j l m n a => gdo rfl rfl (a.says (d := 41) rfl rfl (j 4 rfl)) fun hgd0 => gv (by simp [go_sem, a.e 2 k6_2]) rfl,
  fun f s W i j l m n a => gdo rfl rfl (a.says (d := 41) rfl rfl (j 4 rfl)) fun hgd0 => by have p := below_trans fB6 i; exact wp_called (args := #[.slice (some ⟨g92', 0, none⟩) ((thing).length) (c93'), .slice (a4) (thing.length) (c4)]) (by simp [go_sem, a.e 42 ((j 5 rfl).1 hgd0), a.e 43 ((j 6 rfl).1 hgd0)]) (intsEq_any _ _ thing _ _ thing W (q111'.below i (Nat.le_refl _)) (h4.below p (Nat.le_refl _))) ((fun e W' h => by have h1 := h.1; rw [beq_self_eq_true] at h1; exact ⟨_, h1, h.2, rfl⟩)),
  fun f s W i j l m n a => gdo rfl rfl (a.says (d := 41) rfl rfl (j 4 rfl)) fun hgd0 => gv (by simp [go_sem, a.e 44 ((j 7 rfl).1 hgd0)]) rfl,
  fun f s W i j l m n a => opk (c := false) rfl rfl (fun _ => by simp [go_sem, a.e 41 (j 4 rfl), a.e 45 ((j 8 rfl).1 rfl)]) (fun h => absurd h (by decide)), trivial⟩ ?_
 intro f7 s7 W7 hB7 g7 hg7
 have fB7 := below_trans fB6 hB7.below
 have z7 := hB7.below.size
 have b7_0 := blk_below b6_0 hB7.below
 have b7_1 := blk_below b6_1 hB7.below
 have b7_2 := blk_below b6_2 hB7.below
 have q113' := (q105'.below hB7.below (Nat.le_refl _))
 have q114' := (Nat.lt_of_lt_of_le q106' (Below.size hB7.below))
 have q115' := (q107'.below hB7.below (Nat.le_refl _))
 have q116' := (Nat.lt_of_lt_of_le q108' (Below.size hB7.below))
 have q117' := (q109'.below hB7.below (Nat.le_refl _))
 have q118' := (Nat.lt_of_lt_of_le q110' (Below.size hB7.below))
 have q119' := q111'.below hB7.below (Nat.le_refl _)
 have q120' := (Nat.lt_of_lt_of_le q112' (Below.size hB7.below))
 refine hK8 _ _ ?_
 have k7_2 := kt hg7 2 k6_2
 have k7_3 := kt hg7 3 k6_3
 have k7_4 := kt hg7 4 k6_4
 have k7_6 := kt hg7 6 k6_6
 have k7_9 := kt hg7 9 k6_9
 have k7_10 := kt hg7 10 k6_10
 have k7_11 := kt hg7 11 k6_11
 have k7_46 := kt hg7 46 (hB7.is 9)
 refine wp_cond_false ((fr_eval rfl).trans k7_46) ?_
 refine wp_skip ?_
 refine hK7 _ _ ?_
 refine wp_seq_k fun K10 hK10 => ?_
 refine region_dk 3 [(47, 0), (48, 1), (12, 2)] [[], [0], [0, 1]] (rel [is (.agg #[.int .i64 b.tab, .slice (a1) (b.panels.length) (c1), .int .i64 b.height, .slice (a2) (b.top.length) (c2), .slice (a3) (b.bottom.length) (c3), .int .i64 b.slot, .bool b.isOpen]),
   is (.int .i64 0),
   is (.int .i64 0)])
  ⟨is_k, is_k, is_k, trivial⟩
  ⟨fun f s W i j l m n a => opv rfl rfl (by simp [go_sem, a.e 3 k7_3, Joins.cell_of_block (blk_below b7_0 i) 0, Joins.cell_of_block (blk_below b7_0 i) 1, Joins.cell_of_block (blk_below b7_0 i) 2, Joins.cell_of_block (blk_below b7_0 i) 3, Joins.cell_of_block (blk_below b7_0 i) 4, Joins.cell_of_block (blk_below b7_0 i) 5, Joins.cell_of_block (blk_below b7_0 i) 6]) rfl,
  fun f s W i j l m n a => by have p := below_trans fB7 i; exact opDo_call (args := #[.agg #[.int .i64 b.tab, .slice (a1) (b.panels.length) (c1), .int .i64 b.height, .slice (a2) (b.top.length) (c2), .slice (a3) (b.bottom.length) (c3), .int .i64 b.slot, .bool b.isOpen]]) rfl rfl (by simp [go_sem, a.e 47 (j 0 rfl)]) (refCheck_blk ⟨_, _, _, _, _, _, _, _, _, rfl, (h1.below p (Nat.le_refl _)), (h2.below p (Nat.le_refl _)), (h3.below p (Nat.le_refl _))⟩) ((fun e W' h => by have h1 := h.1; rw [refCheck_eq, hck] at h1; exact ⟨_, h1, h.2, rfl⟩)),
  fun f s W i j l m n a => opv rfl rfl (by simp [go_sem, a.e 48 (j 1 rfl)]) rfl, trivial⟩ ?_
 intro f8 s8 W8 hB8 g8 hg8
 have fB8 := below_trans fB7 hB8.below
 have z8 := hB8.below.size
 have b8_0 := blk_below b7_0 hB8.below
 have b8_1 := blk_below b7_1 hB8.below
 have b8_2 := blk_below b7_2 hB8.below
 have q121' := (q113'.below hB8.below (Nat.le_refl _))
 have q122' := (Nat.lt_of_lt_of_le q114' (Below.size hB8.below))
 have q123' := (q115'.below hB8.below (Nat.le_refl _))
 have q124' := (Nat.lt_of_lt_of_le q116' (Below.size hB8.below))
 have q125' := (q117'.below hB8.below (Nat.le_refl _))
 have q126' := (Nat.lt_of_lt_of_le q118' (Below.size hB8.below))
 have q127' := q119'.below hB8.below (Nat.le_refl _)
 have q128' := (Nat.lt_of_lt_of_le q120' (Below.size hB8.below))
 refine hK10 _ _ ?_
 have k8_2 := kt hg8 2 k7_2
 have k8_3 := kt hg8 3 k7_3
 have k8_4 := kt hg8 4 k7_4
 have k8_6 := kt hg8 6 k7_6
 have k8_9 := kt hg8 9 k7_9
 have k8_10 := kt hg8 10 k7_10
 have k8_11 := kt hg8 11 k7_11
 have k8_12 := kt hg8 12 (hB8.is 2)
 refine wp_seq_k fun K11 hK11 => ?_
 refine wp_block ?_
 refine wp_seq_k fun K12 hK12 => ?_
 refine region_dk 3 [(50, 0), (51, 1), (49, 2)] [[], [0], [0, 1]] (rel [is (.int .i64 0),
   is (.bool false),
   is (.bool false)])
  ⟨is_k, is_k, is_k, trivial⟩
  ⟨fun f s W i j l m n a => opv rfl rfl (by simp [go_sem, a.e 12 k8_12]) rfl,
  fun f s W i j l m n a => opv rfl rfl (by simp [go_sem, a.e 50 (j 0 rfl)]) rfl,
  fun f s W i j l m n a => opv rfl rfl (by simp [go_sem, a.e 51 (j 1 rfl)]) rfl, trivial⟩ ?_
 intro f9 s9 W9 hB9 g9 hg9
 have fB9 := below_trans fB8 hB9.below
 have z9 := hB9.below.size
 have b9_0 := blk_below b8_0 hB9.below
 have b9_1 := blk_below b8_1 hB9.below
 have b9_2 := blk_below b8_2 hB9.below
 have q129' := (q121'.below hB9.below (Nat.le_refl _))
 have q130' := (Nat.lt_of_lt_of_le q122' (Below.size hB9.below))
 have q131' := (q123'.below hB9.below (Nat.le_refl _))
 have q132' := (Nat.lt_of_lt_of_le q124' (Below.size hB9.below))
 have q133' := (q125'.below hB9.below (Nat.le_refl _))
 have q134' := (Nat.lt_of_lt_of_le q126' (Below.size hB9.below))
 have q135' := q127'.below hB9.below (Nat.le_refl _)
 have q136' := (Nat.lt_of_lt_of_le q128' (Below.size hB9.below))
 refine hK12 _ _ ?_
 have k9_2 := kt hg9 2 k8_2
 have k9_3 := kt hg9 3 k8_3
 have k9_4 := kt hg9 4 k8_4
 have k9_6 := kt hg9 6 k8_6
 have k9_9 := kt hg9 9 k8_9
 have k9_10 := kt hg9 10 k8_10
 have k9_11 := kt hg9 11 k8_11
 have k9_12 := kt hg9 12 k8_12
 have k9_49 := kt hg9 49 (hB9.is 2)
 refine wp_cond_false ((fr_eval rfl).trans k9_49) ?_
 refine wp_seq_k fun K14 hK14 => ?_
 refine region_dk 4 [(53, 0), (54, 1), (55, 2), (52, 3)] [[], [0], [0, 1], [0, 1, 2]] (rel [is (.agg #[.int .i64 lo, .int .i64 hi]),
   is (.bool false),
   is (.bool true),
   is (.bool true)])
  ⟨is_k, is_k, is_k, is_k, trivial⟩
  ⟨fun f s W i j l m n a => opv rfl rfl (by simp [go_sem, a.e 4 k9_4, Joins.cell_of_block (blk_below b9_1 i) 0, Joins.cell_of_block (blk_below b9_1 i) 1]) rfl,
  fun f s W i j l m n a => opDo_call rfl rfl (by simp [go_sem, a.e 53 (j 0 rfl)]) (spanR_any lo hi 1 10000 W) ((fun e W' h => by have h1 := h.1; rw [spanR_eq, hsp] at h1; exact ⟨_, h1, h.2, rfl⟩)),
  fun f s W i j l m n a => opv rfl rfl (by simp [go_sem, a.e 54 (j 1 rfl)]) rfl,
  fun f s W i j l m n a => opv rfl rfl (by simp [go_sem, a.e 55 (j 2 rfl)]) rfl, trivial⟩ ?_
 intro f10 s10 W10 hB10 g10 hg10
 have fB10 := below_trans fB9 hB10.below
 have z10 := hB10.below.size
 have b10_0 := blk_below b9_0 hB10.below
 have b10_1 := blk_below b9_1 hB10.below
 have b10_2 := blk_below b9_2 hB10.below
 have q137' := (q129'.below hB10.below (Nat.le_refl _))
 have q138' := (Nat.lt_of_lt_of_le q130' (Below.size hB10.below))
 have q139' := (q131'.below hB10.below (Nat.le_refl _))
 have q140' := (Nat.lt_of_lt_of_le q132' (Below.size hB10.below))
 have q141' := (q133'.below hB10.below (Nat.le_refl _))
 have q142' := (Nat.lt_of_lt_of_le q134' (Below.size hB10.below))
 have q143' := q135'.below hB10.below (Nat.le_refl _)
 have q144' := (Nat.lt_of_lt_of_le q136' (Below.size hB10.below))
 refine hK14 _ _ ?_
 have k10_2 := kt hg10 2 k9_2
 have k10_3 := kt hg10 3 k9_3
 have k10_4 := kt hg10 4 k9_4
 have k10_6 := kt hg10 6 k9_6
 have k10_9 := kt hg10 9 k9_9
 have k10_10 := kt hg10 10 k9_10
 have k10_11 := kt hg10 11 k9_11
 have k10_12 := kt hg10 12 k9_12
 have k10_52 := kt hg10 52 (hB10.is 3)
 refine wp_cond_true ((fr_eval rfl).trans k10_52) ?_
 refine region_dk 1 [(12, 0)] [[]] (rel [is (.int .i64 3)])
  ⟨is_k, trivial⟩
  ⟨fun f s W i j l m n a => opv rfl rfl (by simp [go_sem]) rfl, trivial⟩ ?_
 intro f11 s11 W11 hB11 g11 hg11
 have fB11 := below_trans fB10 hB11.below
 have z11 := hB11.below.size
 have b11_0 := blk_below b10_0 hB11.below
 have b11_1 := blk_below b10_1 hB11.below
 have b11_2 := blk_below b10_2 hB11.below
 have q145' := (q137'.below hB11.below (Nat.le_refl _))
 have q146' := (Nat.lt_of_lt_of_le q138' (Below.size hB11.below))
 have q147' := (q139'.below hB11.below (Nat.le_refl _))
 have q148' := (Nat.lt_of_lt_of_le q140' (Below.size hB11.below))
 have q149' := (q141'.below hB11.below (Nat.le_refl _))
 have q150' := (Nat.lt_of_lt_of_le q142' (Below.size hB11.below))
 have q151' := q143'.below hB11.below (Nat.le_refl _)
 have q152' := (Nat.lt_of_lt_of_le q144' (Below.size hB11.below))
 refine wpOps_end ?_
 have k11_2 := kt hg11 2 k10_2
 have k11_3 := kt hg11 3 k10_3
 have k11_4 := kt hg11 4 k10_4
 have k11_6 := kt hg11 6 k10_6
 have k11_9 := kt hg11 9 k10_9
 have k11_10 := kt hg11 10 k10_10
 have k11_11 := kt hg11 11 k10_11
 have k11_12 := kt hg11 12 (hB11.is 0)
 refine inBlock_normal ?_
 refine hK11 _ _ ?_
 refine wp_seq_k fun K16 hK16 => ?_
 refine wp_seq_k fun K17 hK17 => ?_
 refine region_dk 2 [(64, 0), (65, 1)] [[], [0]] (rel [is (.int .i64 3),
   is (.bool true)])
  ⟨is_k, is_k, trivial⟩
  ⟨fun f s W i j l m n a => opv rfl rfl (by simp [go_sem, a.e 12 k11_12]) rfl,
  fun f s W i j l m n a => opv rfl rfl (by simp [go_sem, a.e 64 (j 0 rfl)]) rfl, trivial⟩ ?_
 intro f12 s12 W12 hB12 g12 hg12
 have fB12 := below_trans fB11 hB12.below
 have z12 := hB12.below.size
 have b12_0 := blk_below b11_0 hB12.below
 have b12_1 := blk_below b11_1 hB12.below
 have b12_2 := blk_below b11_2 hB12.below
 have q153' := (q145'.below hB12.below (Nat.le_refl _))
 have q154' := (Nat.lt_of_lt_of_le q146' (Below.size hB12.below))
 have q155' := (q147'.below hB12.below (Nat.le_refl _))
 have q156' := (Nat.lt_of_lt_of_le q148' (Below.size hB12.below))
 have q157' := (q149'.below hB12.below (Nat.le_refl _))
 have q158' := (Nat.lt_of_lt_of_le q150' (Below.size hB12.below))
 have q159' := q151'.below hB12.below (Nat.le_refl _)
 have q160' := (Nat.lt_of_lt_of_le q152' (Below.size hB12.below))
 refine hK17 _ _ ?_
 have k12_2 := kt hg12 2 k11_2
 have k12_3 := kt hg12 3 k11_3
 have k12_4 := kt hg12 4 k11_4
 have k12_6 := kt hg12 6 k11_6
 have k12_9 := kt hg12 9 k11_9
 have k12_10 := kt hg12 10 k11_10
 have k12_11 := kt hg12 11 k11_11
 have k12_12 := kt hg12 12 k11_12
 have k12_65 := kt hg12 65 (hB12.is 1)
 refine wp_cond_true ((fr_eval rfl).trans k12_65) ?_
 refine wp_seq_k fun K19 hK19 => ?_
 refine region_dk 15 [(66, 0), (67, 1), (68, 2), (69, 3), (70, 4), (71, 5), (72, 6), (73, 7), (74, 8), (75, 9), (76, 10), (77, 11), (78, 12), (79, 13), (6, 14)] [[], [], [0, 1], [0, 1, 2], [0, 1, 2, 3], [0, 1, 2, 3, 4], [0, 1, 2, 3, 4, 5], [0, 1, 2, 3, 4, 5, 6], [0, 1, 2, 3, 4, 5, 6, 7], [0, 1, 2, 3, 4, 5, 6, 7, 8], [0, 1, 2, 3, 4, 5, 6, 7, 8, 9], [0, 1, 2, 3, 4, 5, 6, 7, 8, 9, 10], [0, 1, 2, 3, 4, 5, 6, 7, 8, 9, 10, 11], [0, 1, 2, 3, 4, 5, 6, 7, 8, 9, 10, 11, 12], [0, 1, 2, 3, 4, 5, 6, 7, 8, 9, 10, 11, 12, 13]] (rel [is (.int .i64 3),
   is (.int .i64 3),
   is (.bool true),
   is (.bool true),
   gd (true) true (is (.bool false)),
   gd (true) true (is (.bool true)),
   is (.bool true),
   is (.bool true),
   gd (true) true (is (.bool false)),
   gd (true) true (is (.bool true)),
   is (.bool true),
   is (.bool true),
   gd (true) true (is (.bool true)),
   is (.bool true),
   is (.bool true)])
  ⟨is_k, is_k, is_k, is_k, gd_k (is_k), gd_k (is_k), is_k, is_k, gd_k (is_k), gd_k (is_k), is_k, is_k, gd_k (is_k), is_k, is_k, trivial⟩
  ⟨fun f s W i j l m n a => opv rfl rfl (by simp [go_sem, a.e 11 k12_11]) rfl,
  fun f s W i j l m n a => opv rfl rfl (by simp [go_sem, a.e 12 k12_12]) rfl,
  fun f s W i j l m n a => opv rfl rfl (by simp [go_sem, a.e 66 (j 0 rfl), a.e 67 (j 1 rfl)]) rfl,
  fun f s W i j l m n a => opv rfl rfl (by simp [go_sem, a.e 68 (j 2 rfl)]) rfl,
  fun f s W i j l m n a => gdo rfl rfl (a.says (d := 69) rfl rfl (j 3 rfl)) fun hgd0 => gv (by simp [go_sem, a.e 9 k12_9]) rfl,
  fun f s W i j l m n a => gdo rfl rfl (a.says (d := 69) rfl rfl (j 3 rfl)) fun hgd0 => gv (by simp [go_sem, a.e 70 ((j 4 rfl).1 hgd0)]) rfl,
  fun f s W i j l m n a => opk (c := true) rfl rfl (fun h => absurd h (by decide)) (fun _ => by simp [go_sem, a.e 69 (j 3 rfl), a.e 71 ((j 5 rfl).1 rfl)]),
  fun f s W i j l m n a => opv rfl rfl (by simp [go_sem, a.e 72 (j 6 rfl)]) rfl,
  fun f s W i j l m n a => gdo rfl rfl (a.says (d := 73) rfl rfl (j 7 rfl)) fun hgd0 => gv (by simp [go_sem, a.e 10 k12_10]) rfl,
  fun f s W i j l m n a => gdo rfl rfl (a.says (d := 73) rfl rfl (j 7 rfl)) fun hgd0 => gv (by simp [go_sem, a.e 74 ((j 8 rfl).1 hgd0)]) rfl,
  fun f s W i j l m n a => opk (c := true) rfl rfl (fun h => absurd h (by decide)) (fun _ => by simp [go_sem, a.e 73 (j 7 rfl), a.e 75 ((j 9 rfl).1 rfl)]),
  fun f s W i j l m n a => opv rfl rfl (by simp [go_sem, a.e 76 (j 10 rfl)]) rfl,
  fun f s W i j l m n a => gdo rfl rfl (a.says (d := 77) rfl rfl (j 11 rfl)) fun hgd0 => gc (by simp [go_sem]) (known_any W),
  fun f s W i j l m n a => opk (c := true) rfl rfl (fun h => absurd h (by decide)) (fun _ => by simp [go_sem, a.e 77 (j 11 rfl), a.e 78 ((j 12 rfl).1 rfl)]),
  fun f s W i j l m n a => opv rfl rfl (by simp [go_sem, a.e 79 (j 13 rfl)]) rfl, trivial⟩ ?_
 intro f13 s13 W13 hB13 g13 hg13
 have fB13 := below_trans fB12 hB13.below
 have z13 := hB13.below.size
 have b13_0 := blk_below b12_0 hB13.below
 have b13_1 := blk_below b12_1 hB13.below
 have b13_2 := blk_below b12_2 hB13.below
 have q161' := (q153'.below hB13.below (Nat.le_refl _))
 have q162' := (Nat.lt_of_lt_of_le q154' (Below.size hB13.below))
 have q163' := (q155'.below hB13.below (Nat.le_refl _))
 have q164' := (Nat.lt_of_lt_of_le q156' (Below.size hB13.below))
 have q165' := (q157'.below hB13.below (Nat.le_refl _))
 have q166' := (Nat.lt_of_lt_of_le q158' (Below.size hB13.below))
 have q167' := q159'.below hB13.below (Nat.le_refl _)
 have q168' := (Nat.lt_of_lt_of_le q160' (Below.size hB13.below))
 refine hK19 _ _ ?_
 have k13_2 := kt hg13 2 k12_2
 have k13_3 := kt hg13 3 k12_3
 have k13_4 := kt hg13 4 k12_4
 have k13_9 := kt hg13 9 k12_9
 have k13_10 := kt hg13 10 k12_10
 have k13_11 := kt hg13 11 k12_11
 have k13_6 := kt hg13 6 (hB13.is 14)
 refine wp_ret ?_
 refine then_ret ?_
 refine leave_one (N := 115) (v := .bool true) (.inr rfl) Try.results5 rfl k13_6 ?_
 exact ⟨rfl, fB13⟩
set_option maxRecDepth 100000 in
set_option maxHeartbeats 2000000 in
theorem holds_bad3 (a1 a2 a3 : Option Addr) (c1 c2 c3 : Nat) (b : Bl) (lo hi : Int) (a4 : Option Addr) (c4 : Nat) (thing : List Int) (w : World) (h1 : Ii w a1 b.panels.length c1 b.panels) (h2 : Ii w a2 b.top.length c2 b.top) (h3 : Ii w a3 b.bottom.length c3 b.bottom) (h4 : Ii w a4 thing.length c4 thing) (hl : largeB b = false) (ht : decide (10 < (thing.length : Int)) = false) (hck : checkErr b = 0) (hsp : isSpan (lo, hi) 1 10000 = true) (h3n : ¬ thing.length = 3) :
  Calls Try.prog 5 #[.agg #[.int .i64 b.tab, .slice (a1) (b.panels.length) (c1), .int .i64 b.height, .slice (a2) (b.top.length) (c2), .slice (a3) (b.bottom.length) (c3), .int .i64 b.slot, .bool b.isOpen], .agg #[.int .i64 lo, .int .i64 hi], .slice (a4) (thing.length) (c4)] w (fun e w' => e = .returned (.bool true) ∧ Below w.heap.size w w') := by
 have hm1 := h1.len_le
 have hm2 := h2.len_le
 have hm3 := h3.len_le
 obtain ⟨m1, m2, m3⟩ := large_false hl
 have n1 : b.panels.length ≤ 1000 := by omega
 have n2 : b.top.length ≤ 1000 := by omega
 have n3 : b.bottom.length ≤ 1000 := by omega
 have hm4 := h4.len_le
 have ht' : ¬ 10 < (thing.length : Int) := of_decide_eq_false ht
 have n4 : thing.length ≤ 1000 := by omega
 have hq3 : ((thing.length : Int) != 3) = true := by rw [bne_iff_ne]; omega
 refine calls_fr Try.func5 Try.ntmps5 rfl rfl fun g hg => ?_
 have k0 : g 0 = .agg #[.int .i64 b.tab, .slice (a1) (b.panels.length) (c1), .int .i64 b.height, .slice (a2) (b.top.length) (c2), .slice (a3) (b.bottom.length) (c3), .int .i64 b.slot, .bool b.isOpen] := hg 0
 have k1 : g 1 = .agg #[.int .i64 lo, .int .i64 hi] := hg 1
 have k2 : g 2 = .slice (a4) (thing.length) (c4) := hg 2
 clear hg
 have fB0 : Below w.heap.size w w := Below.refl _ _
 refine wp_seq_k fun K1 hK1 => ?_
 refine region_dk 3 [(3, 0), (4, 1), (6, 2)] [[], [], []] (rel [bx 0 #[.int .i64 b.tab, .slice (a1) (b.panels.length) (c1), .int .i64 b.height, .slice (a2) (b.top.length) (c2), .slice (a3) (b.bottom.length) (c3), .int .i64 b.slot, .bool b.isOpen] 24,
   bx 1 #[.int .i64 lo, .int .i64 hi] 37,
   is (.bool false)])
  ⟨bx_k, bx_k, is_k, trivial⟩
  ⟨fun f s W i j l m n a => opb rfl rfl (by simp [go_sem, a.e 0 k0]),
  fun f s W i j l m n a => opb rfl rfl (by simp [go_sem, a.e 1 k1]),
  fun f s W i j l m n a => opv rfl rfl (by simp [go_sem]) rfl, trivial⟩ ?_
 intro f1 s1 W1 hB1 g1 hg1
 have fB1 := below_trans fB0 hB1.below
 have z1 := hB1.below.size
 obtain ⟨r1_0, br1_0⟩ := hB1.is 0
 have lr1_0 := hB1.lr 0 br1_0
 obtain ⟨r1_1, br1_1⟩ := hB1.is 1
 have lr1_1 := hB1.lr 1 br1_1
 have ne1_0_1 := hB1.nb 0 1
 refine hK1 _ _ ?_
 have k1_2 := kt hg1 2 k2
 have k1_3 := kt hg1 3 r1_0
 have k1_4 := kt hg1 4 r1_1
 have k1_6 := kt hg1 6 (hB1.is 2)
 refine wp_seq_k fun K2 hK2 => ?_
 refine wp_seq_k fun K3 hK3 => ?_
 refine region_dk 7 [(17, 0), (18, 1), (19, 2), (20, 3), (21, 4), (22, 5), (23, 6)] [[], [0], [0, 1], [0, 1, 2], [0, 1, 2, 3], [0, 1, 2, 3, 4], [0, 1, 2, 3, 4, 5]] (rel [is (.agg #[.int .i64 b.tab, .slice (a1) (b.panels.length) (c1), .int .i64 b.height, .slice (a2) (b.top.length) (c2), .slice (a3) (b.bottom.length) (c3), .int .i64 b.slot, .bool b.isOpen]),
   is (.bool false),
   is (.bool false),
   gd (false) false (is (.slice (a4) (thing.length) (c4))),
   gd (false) false (is (.int .i64 ((thing.length : Int)))),
   gd (false) false (is (.bool (decide (10 < (thing.length : Int))))),
   is (.bool (decide (10 < (thing.length : Int))))])
  ⟨is_k, is_k, is_k, gd_k (is_k), gd_k (is_k), gd_k (is_k), is_k, trivial⟩
  ⟨fun f s W i j l m n a => opv rfl rfl (by simp [go_sem, a.e 3 k1_3, Joins.cell_of_block (blk_below br1_0 i) 0, Joins.cell_of_block (blk_below br1_0 i) 1, Joins.cell_of_block (blk_below br1_0 i) 2, Joins.cell_of_block (blk_below br1_0 i) 3, Joins.cell_of_block (blk_below br1_0 i) 4, Joins.cell_of_block (blk_below br1_0 i) 5, Joins.cell_of_block (blk_below br1_0 i) 6]) rfl,
  fun f s W i j l m n a => by have p := below_trans fB1 i; exact opDo_call rfl rfl (by simp [go_sem, a.e 17 (j 0 rfl)]) (large_any a1 a2 a3 c1 c2 c3 b W (h1.below p (Nat.le_refl _)) (h2.below p (Nat.le_refl _)) (h3.below p (Nat.le_refl _))) ((fun e W' h => by have h1 := h.1; rw [hl] at h1; exact ⟨_, h1, h.2, rfl⟩)),
  fun f s W i j l m n a => opv rfl rfl (by simp [go_sem, a.e 18 (j 1 rfl)]) rfl,
  fun f s W i j l m n a => gdo rfl rfl (a.says (d := 19) rfl rfl (j 2 rfl)) fun hgd0 => gv (by simp [go_sem, a.e 2 k1_2]) rfl,
  fun f s W i j l m n a => gdo rfl rfl (a.says (d := 19) rfl rfl (j 2 rfl)) fun hgd0 => gv (by simp [go_sem, a.e 20 ((j 3 rfl).1 hgd0)]) rfl,
  fun f s W i j l m n a => gdo rfl rfl (a.says (d := 19) rfl rfl (j 2 rfl)) fun hgd0 => gv (by simp [go_sem, a.e 21 ((j 4 rfl).1 hgd0)]) rfl,
  fun f s W i j l m n a => opk (c := false) rfl rfl (fun _ => by simp [go_sem, a.e 19 (j 2 rfl), a.e 22 ((j 5 rfl).1 rfl)]) (fun h => absurd h (by decide)), trivial⟩ ?_
 intro f2 s2 W2 hB2 g2 hg2
 have fB2 := below_trans fB1 hB2.below
 have z2 := hB2.below.size
 have b2_0 := blk_below br1_0 hB2.below
 have b2_1 := blk_below br1_1 hB2.below
 refine hK3 _ _ ?_
 have k2_2 := kt hg2 2 k1_2
 have k2_3 := kt hg2 3 k1_3
 have k2_4 := kt hg2 4 k1_4
 have k2_6 := kt hg2 6 k1_6
 have k2_23 := kt hg2 23 (hB2.is 6)
 have hc4 : (fr 115 g2).eval (.tmp 23) = .bool false := ((fr_eval rfl).trans k2_23).trans (by rw [ht])
 refine wp_cond_false (hc4) ?_
 refine wp_skip ?_
 refine hK2 _ _ ?_
 refine wp_seq_k fun K5 hK5 => ?_
 refine region_dk 5 [(25, 0), (26, 1), (27, 2), (28, 3), (7, 4), (8, 6)] [[], [0], [], [0, 1, 2], [], [0, 1, 2, 3, 4], [0, 1, 2, 3, 4, 5]] (rel [is (.agg #[.int .i64 b.tab, .slice (a1) (b.panels.length) (c1), .int .i64 b.height, .slice (a2) (b.top.length) (c2), .slice (a3) (b.bottom.length) (c3), .int .i64 b.slot, .bool b.isOpen]),
   fun v s W => NwBlk (s 1) (b) v W,
   is (.slice (a4) (thing.length) (c4)),
   fun v s W => NwIi (s 3) (thing) v W,
   bx 4 #[.int .i64 0, .slice (none) (0) (0), .int .i64 0, .slice (none) (0) (0), .slice (none) (0) (0), .int .i64 0, .bool false] 24])
  ⟨is_k, ⟨fun v k W W' hb h => h.below hb, fun v s s' W e h => by have h' : NwBlk (s 1) (b) v W := h; show NwBlk (s' 1) (b) v W; rw [← e 1 (by simp)]; exact h'⟩, is_k, ⟨fun v k W W' hb h => h.below hb, fun v s s' W e h => by have h' : NwIi (s 3) (thing) v W := h; show NwIi (s' 3) (thing) v W; rw [← e 3 (by simp)]; exact h'⟩, bx_k, trivial⟩
  ⟨fun f s W i j l m n a => opv rfl rfl (by simp [go_sem, a.e 3 k2_3, Joins.cell_of_block (blk_below b2_0 i) 0, Joins.cell_of_block (blk_below b2_0 i) 1, Joins.cell_of_block (blk_below b2_0 i) 2, Joins.cell_of_block (blk_below b2_0 i) 3, Joins.cell_of_block (blk_below b2_0 i) 4, Joins.cell_of_block (blk_below b2_0 i) 5, Joins.cell_of_block (blk_below b2_0 i) 6]) rfl,
  fun f s W i j l m n a => by have p := below_trans fB2 i; exact opDo_call rfl rfl (by simp [go_sem, a.e 25 (j 0 rfl)]) (own_any a1 a2 a3 c1 c2 c3 b W (h1.below p (Nat.le_refl _)) (h2.below p (Nat.le_refl _)) (h3.below p (Nat.le_refl _)) n1 n2 n3) (fun e W' h => by obtain ⟨v, e1, h1, h2⟩ := h; exact ⟨v, e1, h2, (show NwBlk (upd s 1 W.heap.size 1) (b) v W' from by rw [upd_at]; exact h1)⟩),
  fun f s W i j l m n a => opv rfl rfl (by simp [go_sem, a.e 2 k2_2]) rfl,
  fun f s W i j l m n a => by have p := below_trans fB2 i; exact opDo_call rfl rfl (by simp [go_sem, a.e 27 (j 2 rfl)]) (ints_any a4 c4 thing W (h4.below p (Nat.le_refl _)) n4) (fun e W' h => by obtain ⟨v, e1, h1, h2⟩ := h; exact ⟨v, e1, h2, (show NwIi (upd s 3 W.heap.size 3) (thing) v W' from by rw [upd_at]; exact h1)⟩),
  fun f s W i j l m n a => opb rfl rfl (by simp [go_sem]), trivial⟩ ?_
 intro f3 s3 W3 hB3 g3 hg3
 have fB3 := below_trans fB2 hB3.below
 have z3 := hB3.below.size
 have b3_0 := blk_below b2_0 hB3.below
 have b3_1 := blk_below b2_1 hB3.below
 have la3_1_1 := hB3.from' 1 (by decide)
 obtain ⟨g169', c172', g170', c173', g171', c174', r3_1, ⟨q175', q177', q176'⟩, ⟨q178', q180', q179'⟩, ⟨q181', q183', q182'⟩⟩ := hB3.is 1
 obtain ⟨g184', c185', r3_3, q186', q188', q187'⟩ := hB3.is 3
 obtain ⟨r3_4, br3_4⟩ := hB3.is 4
 have lr3_4 := hB3.lr 4 br3_4
 have la3_1 := hB3.from' 1 (by decide)
 have of3_1_4_0 := hB3.off 1 4 (by decide) (by decide) (by decide) q177' (fun W h => (NwBlk.lt h r3_1).1) (fun _ _ _ h => lt_of_blk h.2)
 have of3_1_4_1 := hB3.off 1 4 (by decide) (by decide) (by decide) q180' (fun W h => (NwBlk.lt h r3_1).2.1) (fun _ _ _ h => lt_of_blk h.2)
 have of3_1_4_2 := hB3.off 1 4 (by decide) (by decide) (by decide) q183' (fun W h => (NwBlk.lt h r3_1).2.2) (fun _ _ _ h => lt_of_blk h.2)
 have la3_3 := hB3.from' 3 (by decide)
 have of3_3_4_0 := hB3.off 3 4 (by decide) (by decide) (by decide) q188' (fun W h => NwIi.lt h r3_3) (fun _ _ _ h => lt_of_blk h.2)
 have k3_2 := kt hg3 2 k2_2
 have k3_3 := kt hg3 3 k2_3
 have k3_4 := kt hg3 4 k2_4
 have k3_6 := kt hg3 6 k2_6
 have k3_26 := kt hg3 26 r3_1
 have k3_28 := kt hg3 28 r3_3
 have k3_7 := kt hg3 7 r3_4
 obtain ⟨W4, hW4⟩ : ∃ W', W' = W3.setRow (s3 4) #[.int .i64 b.tab, .slice (some ⟨g169', 0, none⟩) (b.panels.length) (c172'), .int .i64 b.height, .slice (some ⟨g170', 0, none⟩) (b.top.length) (c173'), .slice (some ⟨g171', 0, none⟩) (b.bottom.length) (c174'), .int .i64 b.slot, .bool b.isOpen] := ⟨_, rfl⟩
 refine tail_skip (o := _) rfl ⟨rfl, rfl⟩ (run_seg hW4 (fr_ev k3_7) (fr_ev k3_26) br3_4 rfl rfl rfl rfl) ?_
 obtain ⟨fB4, nb4, ot4, z4⟩ := seg_facts hW4 fB3 br3_4 (by omega)
 clear hW4
 have b4_0 := ot4 _ _ (by omega) b3_0
 have b4_1 := ot4 _ _ (by omega) b3_1
 have q189' := (q175'.other ot4 q176' (by omega) z4)
 have q190' := Nat.lt_of_lt_of_le q176' z4
 have q191' := (q178'.other ot4 q179' (by omega) z4)
 have q192' := Nat.lt_of_lt_of_le q179' z4
 have q193' := (q181'.other ot4 q182' (by omega) z4)
 have q194' := Nat.lt_of_lt_of_le q182' z4
 have q195' := (q186'.other ot4 q187' (by omega) z4)
 have q196' := Nat.lt_of_lt_of_le q187' z4
 refine tail_value (o := _) rfl rfl rfl (v := .slice (some ⟨g184', 0, none⟩) ((thing).length) (c185')) (by simp [go_sem, frv 115 k3_28]) ?_
 generalize hg5 : upd g3 8 (.slice (some ⟨g184', 0, none⟩) ((thing).length) (c185')) = g5
 have k5_2 := ku hg5 2 k3_2
 have k5_3 := ku hg5 3 k3_3
 have k5_4 := ku hg5 4 k3_4
 have k5_6 := ku hg5 6 k3_6
 have k5_7 := ku hg5 7 k3_7
 have k5_8 := kt hg5 8 (upd_same _ _ _)
 refine wpOps_end ?_
 refine hK5 _ _ ?_
 refine wp_seq_k fun K6 hK6 => ?_
 refine region_dk 11 [(30, 0), (31, 1), (32, 2), (33, 3), (29, 4), (34, 5), (35, 6), (36, 7), (9, 8), (10, 9), (11, 10)] [[], [], [], [0, 1, 2], [0, 1, 2, 3], [0, 1, 2, 3, 4], [0, 1, 2, 3, 4], [0, 1, 2, 3, 4], [0, 1, 2, 3, 4, 5], [0, 1, 2, 3, 4, 5, 6, 8], [0, 1, 2, 3, 4, 5, 6, 7, 8, 9]] (rel [is (.agg #[.int .i64 b.tab, .slice (some ⟨g169', 0, none⟩) (b.panels.length) (c172'), .int .i64 b.height, .slice (some ⟨g170', 0, none⟩) (b.top.length) (c173'), .slice (some ⟨g171', 0, none⟩) (b.bottom.length) (c174'), .int .i64 b.slot, .bool b.isOpen]),
   is (.agg #[.int .i64 lo, .int .i64 hi]),
   is (.slice (some ⟨g184', 0, none⟩) ((thing).length) (c185')),
   is (.tuple #[.bool false, .bool false, .int .i64 4]),
   is (.tuple #[.bool false, .bool false, .int .i64 4]),
   is (.bool false),
   is (.bool false),
   is (.int .i64 4),
   is (.bool false),
   is (.bool false),
   is (.int .i64 4)])
  ⟨is_k, is_k, is_k, is_k, is_k, is_k, is_k, is_k, is_k, is_k, is_k, trivial⟩
  ⟨fun f s W i j l m n a => opv rfl rfl (by simp [go_sem, a.e 7 k5_7, Joins.cell_of_block (blk_below nb4 i) 0, Joins.cell_of_block (blk_below nb4 i) 1, Joins.cell_of_block (blk_below nb4 i) 2, Joins.cell_of_block (blk_below nb4 i) 3, Joins.cell_of_block (blk_below nb4 i) 4, Joins.cell_of_block (blk_below nb4 i) 5, Joins.cell_of_block (blk_below nb4 i) 6]) rfl,
  fun f s W i j l m n a => opv rfl rfl (by simp [go_sem, a.e 4 k5_4, Joins.cell_of_block (blk_below b4_1 i) 0, Joins.cell_of_block (blk_below b4_1 i) 1]) rfl,
  fun f s W i j l m n a => opv rfl rfl (by simp [go_sem, a.e 8 k5_8]) rfl,
  fun f s W i j l m n a => opDo_call (args := #[.agg #[.int .i64 b.tab, .slice (some ⟨g169', 0, none⟩) (b.panels.length) (c172'), .int .i64 b.height, .slice (some ⟨g170', 0, none⟩) (b.top.length) (c173'), .slice (some ⟨g171', 0, none⟩) (b.bottom.length) (c174'), .int .i64 b.slot, .bool b.isOpen], .agg #[.int .i64 lo, .int .i64 hi], .slice (some ⟨g184', 0, none⟩) ((thing).length) (c185')]) rfl rfl (by simp [go_sem, a.e 30 (j 0 rfl), a.e 31 (j 1 rfl), a.e 32 (j 2 rfl)]) (holds_any _ b lo hi _ _ _ thing W ⟨_, _, _, _, _, _, _, _, _, rfl, ((q189'.below i (Nat.le_refl _))), ((q191'.below i (Nat.le_refl _))), ((q193'.below i (Nat.le_refl _)))⟩ (q195'.below i (Nat.le_refl _))) ((fun e W' h => ⟨_, h.1, h.2, by show (Value.tuple #[.bool (if holdsErr b (lo, hi) thing = 0 then fitsOf b hi thing else false), .bool (if holdsErr b (lo, hi) thing = 0 then fitsOf b lo thing else false), .int .i64 (holdsErr b (lo, hi) thing)]) = _; rw [(holds_e3 hck hsp h3n), if_neg (by decide), if_neg (by decide)]⟩)),
  fun f s W i j l m n a => opv rfl rfl (by simp [go_sem, a.e 33 (j 3 rfl)]) rfl,
  fun f s W i j l m n a => opv rfl rfl (by simp [go_sem, a.e 29 (j 4 rfl)]) rfl,
  fun f s W i j l m n a => opv rfl rfl (by simp [go_sem, a.e 29 (j 4 rfl)]) rfl,
  fun f s W i j l m n a => opv rfl rfl (by simp [go_sem, a.e 29 (j 4 rfl)]) rfl,
  fun f s W i j l m n a => opv rfl rfl (by simp [go_sem, a.e 34 (j 5 rfl)]) rfl,
  fun f s W i j l m n a => opv rfl rfl (by simp [go_sem, a.e 35 (j 6 rfl)]) rfl,
  fun f s W i j l m n a => opv rfl rfl (by simp [go_sem, a.e 36 (j 7 rfl)]) rfl, trivial⟩ ?_
 intro f6 s6 W6 hB6 g6 hg6
 have fB6 := below_trans fB4 hB6.below
 have z6 := hB6.below.size
 have b6_0 := blk_below b4_0 hB6.below
 have b6_1 := blk_below b4_1 hB6.below
 have b6_2 := blk_below nb4 hB6.below
 have q197' := (q189'.below hB6.below (Nat.le_refl _))
 have q198' := (Nat.lt_of_lt_of_le q190' (Below.size hB6.below))
 have q199' := (q191'.below hB6.below (Nat.le_refl _))
 have q200' := (Nat.lt_of_lt_of_le q192' (Below.size hB6.below))
 have q201' := (q193'.below hB6.below (Nat.le_refl _))
 have q202' := (Nat.lt_of_lt_of_le q194' (Below.size hB6.below))
 have q203' := q195'.below hB6.below (Nat.le_refl _)
 have q204' := (Nat.lt_of_lt_of_le q196' (Below.size hB6.below))
 refine hK6 _ _ ?_
 have k6_2 := kt hg6 2 k5_2
 have k6_3 := kt hg6 3 k5_3
 have k6_4 := kt hg6 4 k5_4
 have k6_6 := kt hg6 6 k5_6
 have k6_7 := kt hg6 7 k5_7
 have k6_8 := kt hg6 8 k5_8
 have k6_9 := kt hg6 9 (hB6.is 8)
 have k6_10 := kt hg6 10 (hB6.is 9)
 have k6_11 := kt hg6 11 (hB6.is 10)
 refine wp_seq_k fun K7 hK7 => ?_
 refine wp_seq_k fun K8 hK8 => ?_
 refine region_dk 10 [(37, 0), (38, 1), (39, 2), (40, 3), (41, 4), (42, 5), (43, 6), (44, 7), (45, 8), (46, 9)] [[], [], [0, 1], [0, 1, 2], [0, 1, 2, 3], [0, 1, 2, 3, 4], [0, 1, 2, 3, 4], [0, 1, 2, 3, 4, 5, 6], [0, 1, 2, 3, 4, 5, 6, 7], [0, 1, 2, 3, 4, 5, 6, 7, 8]] (rel [is (.agg #[.int .i64 b.tab, .slice (some ⟨g169', 0, none⟩) (b.panels.length) (c172'), .int .i64 b.height, .slice (some ⟨g170', 0, none⟩) (b.top.length) (c173'), .slice (some ⟨g171', 0, none⟩) (b.bottom.length) (c174'), .int .i64 b.slot, .bool b.isOpen]),
   is (.agg #[.int .i64 b.tab, .slice (a1) (b.panels.length) (c1), .int .i64 b.height, .slice (a2) (b.top.length) (c2), .slice (a3) (b.bottom.length) (c3), .int .i64 b.slot, .bool b.isOpen]),
   is (.bool true),
   is (.bool false),
   is (.bool false),
   gd (false) false (is (.slice (some ⟨g184', 0, none⟩) ((thing).length) (c185'))),
   gd (false) false (is (.slice (a4) (thing.length) (c4))),
   gd (false) false (is (.bool true)),
   gd (false) false (is (.bool false)),
   is (.bool false)])
  ⟨is_k, is_k, is_k, is_k, is_k, gd_k (is_k), gd_k (is_k), gd_k (is_k), gd_k (is_k), is_k, trivial⟩
  ⟨fun f s W i j l m n a => opv rfl rfl (by simp [go_sem, a.e 7 k6_7, Joins.cell_of_block (blk_below b6_2 i) 0, Joins.cell_of_block (blk_below b6_2 i) 1, Joins.cell_of_block (blk_below b6_2 i) 2, Joins.cell_of_block (blk_below b6_2 i) 3, Joins.cell_of_block (blk_below b6_2 i) 4, Joins.cell_of_block (blk_below b6_2 i) 5, Joins.cell_of_block (blk_below b6_2 i) 6]) rfl,
  fun f s W i j l m n a => opv rfl rfl (by simp [go_sem, a.e 3 k6_3, Joins.cell_of_block (blk_below b6_0 i) 0, Joins.cell_of_block (blk_below b6_0 i) 1, Joins.cell_of_block (blk_below b6_0 i) 2, Joins.cell_of_block (blk_below b6_0 i) 3, Joins.cell_of_block (blk_below b6_0 i) 4, Joins.cell_of_block (blk_below b6_0 i) 5, Joins.cell_of_block (blk_below b6_0 i) 6]) rfl,
  fun f s W i j l m n a => by have p := below_trans fB6 i; exact opDo_call (args := #[.agg #[.int .i64 b.tab, .slice (some ⟨g169', 0, none⟩) (b.panels.length) (c172'), .int .i64 b.height, .slice (some ⟨g170', 0, none⟩) (b.top.length) (c173'), .slice (some ⟨g171', 0, none⟩) (b.bottom.length) (c174'), .int .i64 b.slot, .bool b.isOpen], .agg #[.int .i64 b.tab, .slice (a1) (b.panels.length) (c1), .int .i64 b.height, .slice (a2) (b.top.length) (c2), .slice (a3) (b.bottom.length) (c3), .int .i64 b.slot, .bool b.isOpen]]) rfl rfl (by simp [go_sem, a.e 37 (j 0 rfl), a.e 38 (j 1 rfl)]) (same_blk (b := b) (d := b) ⟨_, _, _, _, _, _, _, _, _, rfl, ((q197'.below i (Nat.le_refl _))), ((q199'.below i (Nat.le_refl _))), ((q201'.below i (Nat.le_refl _)))⟩ ⟨_, _, _, _, _, _, _, _, _, rfl, (h1.below p (Nat.le_refl _)), (h2.below p (Nat.le_refl _)), (h3.below p (Nat.le_refl _))⟩) ((fun e W' h => by have h1 := h.1; rw [sameB_self] at h1; exact ⟨_, h1, h.2, rfl⟩)),
  fun f s W i j l m n a => opv rfl rfl (by simp [go_sem, a.e 39 (j 2 rfl)]) rfl,
  fun f s W i j l m n a => opv rfl rfl (by simp [go_sem, a.e 40 (j 3 rfl)]) rfl,
  fun f s W i j l m n a => gdo rfl rfl (a.says (d := 41) rfl rfl (j 4 rfl)) fun hgd0 => gv (by simp [go_sem, a.e 8 k6_8]) rfl,
  fun f s W i j l m n a => gdo rfl rfl (a.says (d := 41) rfl rfl (j 4 rfl)) fun hgd0 => gv (by simp [go_sem, a.e 2 k6_2]) rfl,
  fun f s W i j l m n a => gdo rfl rfl (a.says (d := 41) rfl rfl (j 4 rfl)) fun hgd0 => by have p := below_trans fB6 i; exact wp_called (args := #[.slice (some ⟨g184', 0, none⟩) ((thing).length) (c185'), .slice (a4) (thing.length) (c4)]) (by simp [go_sem, a.e 42 ((j 5 rfl).1 hgd0), a.e 43 ((j 6 rfl).1 hgd0)]) (intsEq_any _ _ thing _ _ thing W (q203'.below i (Nat.le_refl _)) (h4.below p (Nat.le_refl _))) ((fun e W' h => by have h1 := h.1; rw [beq_self_eq_true] at h1; exact ⟨_, h1, h.2, rfl⟩)),
  fun f s W i j l m n a => gdo rfl rfl (a.says (d := 41) rfl rfl (j 4 rfl)) fun hgd0 => gv (by simp [go_sem, a.e 44 ((j 7 rfl).1 hgd0)]) rfl,
  fun f s W i j l m n a => opk (c := false) rfl rfl (fun _ => by simp [go_sem, a.e 41 (j 4 rfl), a.e 45 ((j 8 rfl).1 rfl)]) (fun h => absurd h (by decide)), trivial⟩ ?_
 intro f7 s7 W7 hB7 g7 hg7
 have fB7 := below_trans fB6 hB7.below
 have z7 := hB7.below.size
 have b7_0 := blk_below b6_0 hB7.below
 have b7_1 := blk_below b6_1 hB7.below
 have b7_2 := blk_below b6_2 hB7.below
 have q205' := (q197'.below hB7.below (Nat.le_refl _))
 have q206' := (Nat.lt_of_lt_of_le q198' (Below.size hB7.below))
 have q207' := (q199'.below hB7.below (Nat.le_refl _))
 have q208' := (Nat.lt_of_lt_of_le q200' (Below.size hB7.below))
 have q209' := (q201'.below hB7.below (Nat.le_refl _))
 have q210' := (Nat.lt_of_lt_of_le q202' (Below.size hB7.below))
 have q211' := q203'.below hB7.below (Nat.le_refl _)
 have q212' := (Nat.lt_of_lt_of_le q204' (Below.size hB7.below))
 refine hK8 _ _ ?_
 have k7_2 := kt hg7 2 k6_2
 have k7_3 := kt hg7 3 k6_3
 have k7_4 := kt hg7 4 k6_4
 have k7_6 := kt hg7 6 k6_6
 have k7_9 := kt hg7 9 k6_9
 have k7_10 := kt hg7 10 k6_10
 have k7_11 := kt hg7 11 k6_11
 have k7_46 := kt hg7 46 (hB7.is 9)
 refine wp_cond_false ((fr_eval rfl).trans k7_46) ?_
 refine wp_skip ?_
 refine hK7 _ _ ?_
 refine wp_seq_k fun K10 hK10 => ?_
 refine region_dk 3 [(47, 0), (48, 1), (12, 2)] [[], [0], [0, 1]] (rel [is (.agg #[.int .i64 b.tab, .slice (a1) (b.panels.length) (c1), .int .i64 b.height, .slice (a2) (b.top.length) (c2), .slice (a3) (b.bottom.length) (c3), .int .i64 b.slot, .bool b.isOpen]),
   is (.int .i64 0),
   is (.int .i64 0)])
  ⟨is_k, is_k, is_k, trivial⟩
  ⟨fun f s W i j l m n a => opv rfl rfl (by simp [go_sem, a.e 3 k7_3, Joins.cell_of_block (blk_below b7_0 i) 0, Joins.cell_of_block (blk_below b7_0 i) 1, Joins.cell_of_block (blk_below b7_0 i) 2, Joins.cell_of_block (blk_below b7_0 i) 3, Joins.cell_of_block (blk_below b7_0 i) 4, Joins.cell_of_block (blk_below b7_0 i) 5, Joins.cell_of_block (blk_below b7_0 i) 6]) rfl,
  fun f s W i j l m n a => by have p := below_trans fB7 i; exact opDo_call (args := #[.agg #[.int .i64 b.tab, .slice (a1) (b.panels.length) (c1), .int .i64 b.height, .slice (a2) (b.top.length) (c2), .slice (a3) (b.bottom.length) (c3), .int .i64 b.slot, .bool b.isOpen]]) rfl rfl (by simp [go_sem, a.e 47 (j 0 rfl)]) (refCheck_blk ⟨_, _, _, _, _, _, _, _, _, rfl, (h1.below p (Nat.le_refl _)), (h2.below p (Nat.le_refl _)), (h3.below p (Nat.le_refl _))⟩) ((fun e W' h => by have h1 := h.1; rw [refCheck_eq, hck] at h1; exact ⟨_, h1, h.2, rfl⟩)),
  fun f s W i j l m n a => opv rfl rfl (by simp [go_sem, a.e 48 (j 1 rfl)]) rfl, trivial⟩ ?_
 intro f8 s8 W8 hB8 g8 hg8
 have fB8 := below_trans fB7 hB8.below
 have z8 := hB8.below.size
 have b8_0 := blk_below b7_0 hB8.below
 have b8_1 := blk_below b7_1 hB8.below
 have b8_2 := blk_below b7_2 hB8.below
 have q213' := (q205'.below hB8.below (Nat.le_refl _))
 have q214' := (Nat.lt_of_lt_of_le q206' (Below.size hB8.below))
 have q215' := (q207'.below hB8.below (Nat.le_refl _))
 have q216' := (Nat.lt_of_lt_of_le q208' (Below.size hB8.below))
 have q217' := (q209'.below hB8.below (Nat.le_refl _))
 have q218' := (Nat.lt_of_lt_of_le q210' (Below.size hB8.below))
 have q219' := q211'.below hB8.below (Nat.le_refl _)
 have q220' := (Nat.lt_of_lt_of_le q212' (Below.size hB8.below))
 refine hK10 _ _ ?_
 have k8_2 := kt hg8 2 k7_2
 have k8_3 := kt hg8 3 k7_3
 have k8_4 := kt hg8 4 k7_4
 have k8_6 := kt hg8 6 k7_6
 have k8_9 := kt hg8 9 k7_9
 have k8_10 := kt hg8 10 k7_10
 have k8_11 := kt hg8 11 k7_11
 have k8_12 := kt hg8 12 (hB8.is 2)
 refine wp_seq_k fun K11 hK11 => ?_
 refine wp_block ?_
 refine wp_seq_k fun K12 hK12 => ?_
 refine region_dk 3 [(50, 0), (51, 1), (49, 2)] [[], [0], [0, 1]] (rel [is (.int .i64 0),
   is (.bool false),
   is (.bool false)])
  ⟨is_k, is_k, is_k, trivial⟩
  ⟨fun f s W i j l m n a => opv rfl rfl (by simp [go_sem, a.e 12 k8_12]) rfl,
  fun f s W i j l m n a => opv rfl rfl (by simp [go_sem, a.e 50 (j 0 rfl)]) rfl,
  fun f s W i j l m n a => opv rfl rfl (by simp [go_sem, a.e 51 (j 1 rfl)]) rfl, trivial⟩ ?_
 intro f9 s9 W9 hB9 g9 hg9
 have fB9 := below_trans fB8 hB9.below
 have z9 := hB9.below.size
 have b9_0 := blk_below b8_0 hB9.below
 have b9_1 := blk_below b8_1 hB9.below
 have b9_2 := blk_below b8_2 hB9.below
 have q221' := (q213'.below hB9.below (Nat.le_refl _))
 have q222' := (Nat.lt_of_lt_of_le q214' (Below.size hB9.below))
 have q223' := (q215'.below hB9.below (Nat.le_refl _))
 have q224' := (Nat.lt_of_lt_of_le q216' (Below.size hB9.below))
 have q225' := (q217'.below hB9.below (Nat.le_refl _))
 have q226' := (Nat.lt_of_lt_of_le q218' (Below.size hB9.below))
 have q227' := q219'.below hB9.below (Nat.le_refl _)
 have q228' := (Nat.lt_of_lt_of_le q220' (Below.size hB9.below))
 refine hK12 _ _ ?_
 have k9_2 := kt hg9 2 k8_2
 have k9_3 := kt hg9 3 k8_3
 have k9_4 := kt hg9 4 k8_4
 have k9_6 := kt hg9 6 k8_6
 have k9_9 := kt hg9 9 k8_9
 have k9_10 := kt hg9 10 k8_10
 have k9_11 := kt hg9 11 k8_11
 have k9_12 := kt hg9 12 k8_12
 have k9_49 := kt hg9 49 (hB9.is 2)
 refine wp_cond_false ((fr_eval rfl).trans k9_49) ?_
 refine wp_seq_k fun K14 hK14 => ?_
 refine region_dk 4 [(53, 0), (54, 1), (55, 2), (52, 3)] [[], [0], [0, 1], [0, 1, 2]] (rel [is (.agg #[.int .i64 lo, .int .i64 hi]),
   is (.bool true),
   is (.bool false),
   is (.bool false)])
  ⟨is_k, is_k, is_k, is_k, trivial⟩
  ⟨fun f s W i j l m n a => opv rfl rfl (by simp [go_sem, a.e 4 k9_4, Joins.cell_of_block (blk_below b9_1 i) 0, Joins.cell_of_block (blk_below b9_1 i) 1]) rfl,
  fun f s W i j l m n a => opDo_call rfl rfl (by simp [go_sem, a.e 53 (j 0 rfl)]) (spanR_any lo hi 1 10000 W) ((fun e W' h => by have h1 := h.1; rw [spanR_eq, hsp] at h1; exact ⟨_, h1, h.2, rfl⟩)),
  fun f s W i j l m n a => opv rfl rfl (by simp [go_sem, a.e 54 (j 1 rfl)]) rfl,
  fun f s W i j l m n a => opv rfl rfl (by simp [go_sem, a.e 55 (j 2 rfl)]) rfl, trivial⟩ ?_
 intro f10 s10 W10 hB10 g10 hg10
 have fB10 := below_trans fB9 hB10.below
 have z10 := hB10.below.size
 have b10_0 := blk_below b9_0 hB10.below
 have b10_1 := blk_below b9_1 hB10.below
 have b10_2 := blk_below b9_2 hB10.below
 have q229' := (q221'.below hB10.below (Nat.le_refl _))
 have q230' := (Nat.lt_of_lt_of_le q222' (Below.size hB10.below))
 have q231' := (q223'.below hB10.below (Nat.le_refl _))
 have q232' := (Nat.lt_of_lt_of_le q224' (Below.size hB10.below))
 have q233' := (q225'.below hB10.below (Nat.le_refl _))
 have q234' := (Nat.lt_of_lt_of_le q226' (Below.size hB10.below))
 have q235' := q227'.below hB10.below (Nat.le_refl _)
 have q236' := (Nat.lt_of_lt_of_le q228' (Below.size hB10.below))
 refine hK14 _ _ ?_
 have k10_2 := kt hg10 2 k9_2
 have k10_3 := kt hg10 3 k9_3
 have k10_4 := kt hg10 4 k9_4
 have k10_6 := kt hg10 6 k9_6
 have k10_9 := kt hg10 9 k9_9
 have k10_10 := kt hg10 10 k9_10
 have k10_11 := kt hg10 11 k9_11
 have k10_12 := kt hg10 12 k9_12
 have k10_52 := kt hg10 52 (hB10.is 3)
 refine wp_cond_false ((fr_eval rfl).trans k10_52) ?_
 refine wp_seq_k fun K16 hK16 => ?_
 refine region_dk 4 [(57, 0), (58, 1), (59, 2), (56, 3)] [[], [0], [0, 1], [0, 1, 2]] (rel [is (.slice (a4) (thing.length) (c4)),
   is (.int .i64 ((thing.length : Int))),
   is (.bool true),
   is (.bool true)])
  ⟨is_k, is_k, is_k, is_k, trivial⟩
  ⟨fun f s W i j l m n a => opv rfl rfl (by simp [go_sem, a.e 2 k10_2]) rfl,
  fun f s W i j l m n a => opv rfl rfl (by simp [go_sem, a.e 57 (j 0 rfl)]) rfl,
  fun f s W i j l m n a => opv rfl rfl (by simp [go_sem, a.e 58 (j 1 rfl), hq3]) rfl,
  fun f s W i j l m n a => opv rfl rfl (by simp [go_sem, a.e 59 (j 2 rfl)]) rfl, trivial⟩ ?_
 intro f11 s11 W11 hB11 g11 hg11
 have fB11 := below_trans fB10 hB11.below
 have z11 := hB11.below.size
 have b11_0 := blk_below b10_0 hB11.below
 have b11_1 := blk_below b10_1 hB11.below
 have b11_2 := blk_below b10_2 hB11.below
 have q237' := (q229'.below hB11.below (Nat.le_refl _))
 have q238' := (Nat.lt_of_lt_of_le q230' (Below.size hB11.below))
 have q239' := (q231'.below hB11.below (Nat.le_refl _))
 have q240' := (Nat.lt_of_lt_of_le q232' (Below.size hB11.below))
 have q241' := (q233'.below hB11.below (Nat.le_refl _))
 have q242' := (Nat.lt_of_lt_of_le q234' (Below.size hB11.below))
 have q243' := q235'.below hB11.below (Nat.le_refl _)
 have q244' := (Nat.lt_of_lt_of_le q236' (Below.size hB11.below))
 refine hK16 _ _ ?_
 have k11_2 := kt hg11 2 k10_2
 have k11_3 := kt hg11 3 k10_3
 have k11_4 := kt hg11 4 k10_4
 have k11_6 := kt hg11 6 k10_6
 have k11_9 := kt hg11 9 k10_9
 have k11_10 := kt hg11 10 k10_10
 have k11_11 := kt hg11 11 k10_11
 have k11_12 := kt hg11 12 k10_12
 have k11_56 := kt hg11 56 (hB11.is 3)
 refine wp_cond_true ((fr_eval rfl).trans k11_56) ?_
 refine region_dk 1 [(12, 0)] [[]] (rel [is (.int .i64 4)])
  ⟨is_k, trivial⟩
  ⟨fun f s W i j l m n a => opv rfl rfl (by simp [go_sem]) rfl, trivial⟩ ?_
 intro f12 s12 W12 hB12 g12 hg12
 have fB12 := below_trans fB11 hB12.below
 have z12 := hB12.below.size
 have b12_0 := blk_below b11_0 hB12.below
 have b12_1 := blk_below b11_1 hB12.below
 have b12_2 := blk_below b11_2 hB12.below
 have q245' := (q237'.below hB12.below (Nat.le_refl _))
 have q246' := (Nat.lt_of_lt_of_le q238' (Below.size hB12.below))
 have q247' := (q239'.below hB12.below (Nat.le_refl _))
 have q248' := (Nat.lt_of_lt_of_le q240' (Below.size hB12.below))
 have q249' := (q241'.below hB12.below (Nat.le_refl _))
 have q250' := (Nat.lt_of_lt_of_le q242' (Below.size hB12.below))
 have q251' := q243'.below hB12.below (Nat.le_refl _)
 have q252' := (Nat.lt_of_lt_of_le q244' (Below.size hB12.below))
 refine wpOps_end ?_
 have k12_2 := kt hg12 2 k11_2
 have k12_3 := kt hg12 3 k11_3
 have k12_4 := kt hg12 4 k11_4
 have k12_6 := kt hg12 6 k11_6
 have k12_9 := kt hg12 9 k11_9
 have k12_10 := kt hg12 10 k11_10
 have k12_11 := kt hg12 11 k11_11
 have k12_12 := kt hg12 12 (hB12.is 0)
 refine inBlock_normal ?_
 refine hK11 _ _ ?_
 refine wp_seq_k fun K18 hK18 => ?_
 refine wp_seq_k fun K19 hK19 => ?_
 refine region_dk 2 [(64, 0), (65, 1)] [[], [0]] (rel [is (.int .i64 4),
   is (.bool true)])
  ⟨is_k, is_k, trivial⟩
  ⟨fun f s W i j l m n a => opv rfl rfl (by simp [go_sem, a.e 12 k12_12]) rfl,
  fun f s W i j l m n a => opv rfl rfl (by simp [go_sem, a.e 64 (j 0 rfl)]) rfl, trivial⟩ ?_
 intro f13 s13 W13 hB13 g13 hg13
 have fB13 := below_trans fB12 hB13.below
 have z13 := hB13.below.size
 have b13_0 := blk_below b12_0 hB13.below
 have b13_1 := blk_below b12_1 hB13.below
 have b13_2 := blk_below b12_2 hB13.below
 have q253' := (q245'.below hB13.below (Nat.le_refl _))
 have q254' := (Nat.lt_of_lt_of_le q246' (Below.size hB13.below))
 have q255' := (q247'.below hB13.below (Nat.le_refl _))
 have q256' := (Nat.lt_of_lt_of_le q248' (Below.size hB13.below))
 have q257' := (q249'.below hB13.below (Nat.le_refl _))
 have q258' := (Nat.lt_of_lt_of_le q250' (Below.size hB13.below))
 have q259' := q251'.below hB13.below (Nat.le_refl _)
 have q260' := (Nat.lt_of_lt_of_le q252' (Below.size hB13.below))
 refine hK19 _ _ ?_
 have k13_2 := kt hg13 2 k12_2
 have k13_3 := kt hg13 3 k12_3
 have k13_4 := kt hg13 4 k12_4
 have k13_6 := kt hg13 6 k12_6
 have k13_9 := kt hg13 9 k12_9
 have k13_10 := kt hg13 10 k12_10
 have k13_11 := kt hg13 11 k12_11
 have k13_12 := kt hg13 12 k12_12
 have k13_65 := kt hg13 65 (hB13.is 1)
 refine wp_cond_true ((fr_eval rfl).trans k13_65) ?_
 refine wp_seq_k fun K21 hK21 => ?_
 refine region_dk 15 [(66, 0), (67, 1), (68, 2), (69, 3), (70, 4), (71, 5), (72, 6), (73, 7), (74, 8), (75, 9), (76, 10), (77, 11), (78, 12), (79, 13), (6, 14)] [[], [], [0, 1], [0, 1, 2], [0, 1, 2, 3], [0, 1, 2, 3, 4], [0, 1, 2, 3, 4, 5], [0, 1, 2, 3, 4, 5, 6], [0, 1, 2, 3, 4, 5, 6, 7], [0, 1, 2, 3, 4, 5, 6, 7, 8], [0, 1, 2, 3, 4, 5, 6, 7, 8, 9], [0, 1, 2, 3, 4, 5, 6, 7, 8, 9, 10], [0, 1, 2, 3, 4, 5, 6, 7, 8, 9, 10, 11], [0, 1, 2, 3, 4, 5, 6, 7, 8, 9, 10, 11, 12], [0, 1, 2, 3, 4, 5, 6, 7, 8, 9, 10, 11, 12, 13]] (rel [is (.int .i64 4),
   is (.int .i64 4),
   is (.bool true),
   is (.bool true),
   gd (true) true (is (.bool false)),
   gd (true) true (is (.bool true)),
   is (.bool true),
   is (.bool true),
   gd (true) true (is (.bool false)),
   gd (true) true (is (.bool true)),
   is (.bool true),
   is (.bool true),
   gd (true) true (is (.bool true)),
   is (.bool true),
   is (.bool true)])
  ⟨is_k, is_k, is_k, is_k, gd_k (is_k), gd_k (is_k), is_k, is_k, gd_k (is_k), gd_k (is_k), is_k, is_k, gd_k (is_k), is_k, is_k, trivial⟩
  ⟨fun f s W i j l m n a => opv rfl rfl (by simp [go_sem, a.e 11 k13_11]) rfl,
  fun f s W i j l m n a => opv rfl rfl (by simp [go_sem, a.e 12 k13_12]) rfl,
  fun f s W i j l m n a => opv rfl rfl (by simp [go_sem, a.e 66 (j 0 rfl), a.e 67 (j 1 rfl)]) rfl,
  fun f s W i j l m n a => opv rfl rfl (by simp [go_sem, a.e 68 (j 2 rfl)]) rfl,
  fun f s W i j l m n a => gdo rfl rfl (a.says (d := 69) rfl rfl (j 3 rfl)) fun hgd0 => gv (by simp [go_sem, a.e 9 k13_9]) rfl,
  fun f s W i j l m n a => gdo rfl rfl (a.says (d := 69) rfl rfl (j 3 rfl)) fun hgd0 => gv (by simp [go_sem, a.e 70 ((j 4 rfl).1 hgd0)]) rfl,
  fun f s W i j l m n a => opk (c := true) rfl rfl (fun h => absurd h (by decide)) (fun _ => by simp [go_sem, a.e 69 (j 3 rfl), a.e 71 ((j 5 rfl).1 rfl)]),
  fun f s W i j l m n a => opv rfl rfl (by simp [go_sem, a.e 72 (j 6 rfl)]) rfl,
  fun f s W i j l m n a => gdo rfl rfl (a.says (d := 73) rfl rfl (j 7 rfl)) fun hgd0 => gv (by simp [go_sem, a.e 10 k13_10]) rfl,
  fun f s W i j l m n a => gdo rfl rfl (a.says (d := 73) rfl rfl (j 7 rfl)) fun hgd0 => gv (by simp [go_sem, a.e 74 ((j 8 rfl).1 hgd0)]) rfl,
  fun f s W i j l m n a => opk (c := true) rfl rfl (fun h => absurd h (by decide)) (fun _ => by simp [go_sem, a.e 73 (j 7 rfl), a.e 75 ((j 9 rfl).1 rfl)]),
  fun f s W i j l m n a => opv rfl rfl (by simp [go_sem, a.e 76 (j 10 rfl)]) rfl,
  fun f s W i j l m n a => gdo rfl rfl (a.says (d := 77) rfl rfl (j 11 rfl)) fun hgd0 => gc (by simp [go_sem]) (known_any W),
  fun f s W i j l m n a => opk (c := true) rfl rfl (fun h => absurd h (by decide)) (fun _ => by simp [go_sem, a.e 77 (j 11 rfl), a.e 78 ((j 12 rfl).1 rfl)]),
  fun f s W i j l m n a => opv rfl rfl (by simp [go_sem, a.e 79 (j 13 rfl)]) rfl, trivial⟩ ?_
 intro f14 s14 W14 hB14 g14 hg14
 have fB14 := below_trans fB13 hB14.below
 have z14 := hB14.below.size
 have b14_0 := blk_below b13_0 hB14.below
 have b14_1 := blk_below b13_1 hB14.below
 have b14_2 := blk_below b13_2 hB14.below
 have q261' := (q253'.below hB14.below (Nat.le_refl _))
 have q262' := (Nat.lt_of_lt_of_le q254' (Below.size hB14.below))
 have q263' := (q255'.below hB14.below (Nat.le_refl _))
 have q264' := (Nat.lt_of_lt_of_le q256' (Below.size hB14.below))
 have q265' := (q257'.below hB14.below (Nat.le_refl _))
 have q266' := (Nat.lt_of_lt_of_le q258' (Below.size hB14.below))
 have q267' := q259'.below hB14.below (Nat.le_refl _)
 have q268' := (Nat.lt_of_lt_of_le q260' (Below.size hB14.below))
 refine hK21 _ _ ?_
 have k14_2 := kt hg14 2 k13_2
 have k14_3 := kt hg14 3 k13_3
 have k14_4 := kt hg14 4 k13_4
 have k14_9 := kt hg14 9 k13_9
 have k14_10 := kt hg14 10 k13_10
 have k14_11 := kt hg14 11 k13_11
 have k14_6 := kt hg14 6 (hB14.is 14)
 refine wp_ret ?_
 refine then_ret ?_
 refine leave_one (N := 115) (v := .bool true) (.inr rfl) Try.results5 rfl k14_6 ?_
 exact ⟨rfl, fB14⟩
set_option maxRecDepth 100000 in
set_option maxHeartbeats 2000000 in
theorem holds_bad4 (a1 a2 a3 : Option Addr) (c1 c2 c3 : Nat) (b : Bl) (lo hi : Int) (a4 : Option Addr) (c4 : Nat) (thing : List Int) (w : World) (h1 : Ii w a1 b.panels.length c1 b.panels) (h2 : Ii w a2 b.top.length c2 b.top) (h3 : Ii w a3 b.bottom.length c3 b.bottom) (h4 : Ii w a4 thing.length c4 thing) (hl : largeB b = false) (ht : decide (10 < (thing.length : Int)) = false) (hck : checkErr b = 0) (hsp : isSpan (lo, hi) 1 10000 = true) (h3n : thing.length = 3) (hlo : areLong 0 thing = false) :
  Calls Try.prog 5 #[.agg #[.int .i64 b.tab, .slice (a1) (b.panels.length) (c1), .int .i64 b.height, .slice (a2) (b.top.length) (c2), .slice (a3) (b.bottom.length) (c3), .int .i64 b.slot, .bool b.isOpen], .agg #[.int .i64 lo, .int .i64 hi], .slice (a4) (thing.length) (c4)] w (fun e w' => e = .returned (.bool true) ∧ Below w.heap.size w w') := by
 have hm1 := h1.len_le
 have hm2 := h2.len_le
 have hm3 := h3.len_le
 obtain ⟨m1, m2, m3⟩ := large_false hl
 have n1 : b.panels.length ≤ 1000 := by omega
 have n2 : b.top.length ≤ 1000 := by omega
 have n3 : b.bottom.length ≤ 1000 := by omega
 have hm4 := h4.len_le
 have ht' : ¬ 10 < (thing.length : Int) := of_decide_eq_false ht
 have n4 : thing.length ≤ 1000 := by omega
 have hq3 : ((thing.length : Int) != 3) = false := by rw [bne_eq_false_iff_eq]; omega
 refine calls_fr Try.func5 Try.ntmps5 rfl rfl fun g hg => ?_
 have k0 : g 0 = .agg #[.int .i64 b.tab, .slice (a1) (b.panels.length) (c1), .int .i64 b.height, .slice (a2) (b.top.length) (c2), .slice (a3) (b.bottom.length) (c3), .int .i64 b.slot, .bool b.isOpen] := hg 0
 have k1 : g 1 = .agg #[.int .i64 lo, .int .i64 hi] := hg 1
 have k2 : g 2 = .slice (a4) (thing.length) (c4) := hg 2
 clear hg
 have fB0 : Below w.heap.size w w := Below.refl _ _
 refine wp_seq_k fun K1 hK1 => ?_
 refine region_dk 3 [(3, 0), (4, 1), (6, 2)] [[], [], []] (rel [bx 0 #[.int .i64 b.tab, .slice (a1) (b.panels.length) (c1), .int .i64 b.height, .slice (a2) (b.top.length) (c2), .slice (a3) (b.bottom.length) (c3), .int .i64 b.slot, .bool b.isOpen] 24,
   bx 1 #[.int .i64 lo, .int .i64 hi] 37,
   is (.bool false)])
  ⟨bx_k, bx_k, is_k, trivial⟩
  ⟨fun f s W i j l m n a => opb rfl rfl (by simp [go_sem, a.e 0 k0]),
  fun f s W i j l m n a => opb rfl rfl (by simp [go_sem, a.e 1 k1]),
  fun f s W i j l m n a => opv rfl rfl (by simp [go_sem]) rfl, trivial⟩ ?_
 intro f1 s1 W1 hB1 g1 hg1
 have fB1 := below_trans fB0 hB1.below
 have z1 := hB1.below.size
 obtain ⟨r1_0, br1_0⟩ := hB1.is 0
 have lr1_0 := hB1.lr 0 br1_0
 obtain ⟨r1_1, br1_1⟩ := hB1.is 1
 have lr1_1 := hB1.lr 1 br1_1
 have ne1_0_1 := hB1.nb 0 1
 refine hK1 _ _ ?_
 have k1_2 := kt hg1 2 k2
 have k1_3 := kt hg1 3 r1_0
 have k1_4 := kt hg1 4 r1_1
 have k1_6 := kt hg1 6 (hB1.is 2)
 refine wp_seq_k fun K2 hK2 => ?_
 refine wp_seq_k fun K3 hK3 => ?_
 refine region_dk 7 [(17, 0), (18, 1), (19, 2), (20, 3), (21, 4), (22, 5), (23, 6)] [[], [0], [0, 1], [0, 1, 2], [0, 1, 2, 3], [0, 1, 2, 3, 4], [0, 1, 2, 3, 4, 5]] (rel [is (.agg #[.int .i64 b.tab, .slice (a1) (b.panels.length) (c1), .int .i64 b.height, .slice (a2) (b.top.length) (c2), .slice (a3) (b.bottom.length) (c3), .int .i64 b.slot, .bool b.isOpen]),
   is (.bool false),
   is (.bool false),
   gd (false) false (is (.slice (a4) (thing.length) (c4))),
   gd (false) false (is (.int .i64 ((thing.length : Int)))),
   gd (false) false (is (.bool (decide (10 < (thing.length : Int))))),
   is (.bool (decide (10 < (thing.length : Int))))])
  ⟨is_k, is_k, is_k, gd_k (is_k), gd_k (is_k), gd_k (is_k), is_k, trivial⟩
  ⟨fun f s W i j l m n a => opv rfl rfl (by simp [go_sem, a.e 3 k1_3, Joins.cell_of_block (blk_below br1_0 i) 0, Joins.cell_of_block (blk_below br1_0 i) 1, Joins.cell_of_block (blk_below br1_0 i) 2, Joins.cell_of_block (blk_below br1_0 i) 3, Joins.cell_of_block (blk_below br1_0 i) 4, Joins.cell_of_block (blk_below br1_0 i) 5, Joins.cell_of_block (blk_below br1_0 i) 6]) rfl,
  fun f s W i j l m n a => by have p := below_trans fB1 i; exact opDo_call rfl rfl (by simp [go_sem, a.e 17 (j 0 rfl)]) (large_any a1 a2 a3 c1 c2 c3 b W (h1.below p (Nat.le_refl _)) (h2.below p (Nat.le_refl _)) (h3.below p (Nat.le_refl _))) ((fun e W' h => by have h1 := h.1; rw [hl] at h1; exact ⟨_, h1, h.2, rfl⟩)),
  fun f s W i j l m n a => opv rfl rfl (by simp [go_sem, a.e 18 (j 1 rfl)]) rfl,
  fun f s W i j l m n a => gdo rfl rfl (a.says (d := 19) rfl rfl (j 2 rfl)) fun hgd0 => gv (by simp [go_sem, a.e 2 k1_2]) rfl,
  fun f s W i j l m n a => gdo rfl rfl (a.says (d := 19) rfl rfl (j 2 rfl)) fun hgd0 => gv (by simp [go_sem, a.e 20 ((j 3 rfl).1 hgd0)]) rfl,
  fun f s W i j l m n a => gdo rfl rfl (a.says (d := 19) rfl rfl (j 2 rfl)) fun hgd0 => gv (by simp [go_sem, a.e 21 ((j 4 rfl).1 hgd0)]) rfl,
  fun f s W i j l m n a => opk (c := false) rfl rfl (fun _ => by simp [go_sem, a.e 19 (j 2 rfl), a.e 22 ((j 5 rfl).1 rfl)]) (fun h => absurd h (by decide)), trivial⟩ ?_
 intro f2 s2 W2 hB2 g2 hg2
 have fB2 := below_trans fB1 hB2.below
 have z2 := hB2.below.size
 have b2_0 := blk_below br1_0 hB2.below
 have b2_1 := blk_below br1_1 hB2.below
 refine hK3 _ _ ?_
 have k2_2 := kt hg2 2 k1_2
 have k2_3 := kt hg2 3 k1_3
 have k2_4 := kt hg2 4 k1_4
 have k2_6 := kt hg2 6 k1_6
 have k2_23 := kt hg2 23 (hB2.is 6)
 have hc4 : (fr 115 g2).eval (.tmp 23) = .bool false := ((fr_eval rfl).trans k2_23).trans (by rw [ht])
 refine wp_cond_false (hc4) ?_
 refine wp_skip ?_
 refine hK2 _ _ ?_
 refine wp_seq_k fun K5 hK5 => ?_
 refine region_dk 5 [(25, 0), (26, 1), (27, 2), (28, 3), (7, 4), (8, 6)] [[], [0], [], [0, 1, 2], [], [0, 1, 2, 3, 4], [0, 1, 2, 3, 4, 5]] (rel [is (.agg #[.int .i64 b.tab, .slice (a1) (b.panels.length) (c1), .int .i64 b.height, .slice (a2) (b.top.length) (c2), .slice (a3) (b.bottom.length) (c3), .int .i64 b.slot, .bool b.isOpen]),
   fun v s W => NwBlk (s 1) (b) v W,
   is (.slice (a4) (thing.length) (c4)),
   fun v s W => NwIi (s 3) (thing) v W,
   bx 4 #[.int .i64 0, .slice (none) (0) (0), .int .i64 0, .slice (none) (0) (0), .slice (none) (0) (0), .int .i64 0, .bool false] 24])
  ⟨is_k, ⟨fun v k W W' hb h => h.below hb, fun v s s' W e h => by have h' : NwBlk (s 1) (b) v W := h; show NwBlk (s' 1) (b) v W; rw [← e 1 (by simp)]; exact h'⟩, is_k, ⟨fun v k W W' hb h => h.below hb, fun v s s' W e h => by have h' : NwIi (s 3) (thing) v W := h; show NwIi (s' 3) (thing) v W; rw [← e 3 (by simp)]; exact h'⟩, bx_k, trivial⟩
  ⟨fun f s W i j l m n a => opv rfl rfl (by simp [go_sem, a.e 3 k2_3, Joins.cell_of_block (blk_below b2_0 i) 0, Joins.cell_of_block (blk_below b2_0 i) 1, Joins.cell_of_block (blk_below b2_0 i) 2, Joins.cell_of_block (blk_below b2_0 i) 3, Joins.cell_of_block (blk_below b2_0 i) 4, Joins.cell_of_block (blk_below b2_0 i) 5, Joins.cell_of_block (blk_below b2_0 i) 6]) rfl,
  fun f s W i j l m n a => by have p := below_trans fB2 i; exact opDo_call rfl rfl (by simp [go_sem, a.e 25 (j 0 rfl)]) (own_any a1 a2 a3 c1 c2 c3 b W (h1.below p (Nat.le_refl _)) (h2.below p (Nat.le_refl _)) (h3.below p (Nat.le_refl _)) n1 n2 n3) (fun e W' h => by obtain ⟨v, e1, h1, h2⟩ := h; exact ⟨v, e1, h2, (show NwBlk (upd s 1 W.heap.size 1) (b) v W' from by rw [upd_at]; exact h1)⟩),
  fun f s W i j l m n a => opv rfl rfl (by simp [go_sem, a.e 2 k2_2]) rfl,
  fun f s W i j l m n a => by have p := below_trans fB2 i; exact opDo_call rfl rfl (by simp [go_sem, a.e 27 (j 2 rfl)]) (ints_any a4 c4 thing W (h4.below p (Nat.le_refl _)) n4) (fun e W' h => by obtain ⟨v, e1, h1, h2⟩ := h; exact ⟨v, e1, h2, (show NwIi (upd s 3 W.heap.size 3) (thing) v W' from by rw [upd_at]; exact h1)⟩),
  fun f s W i j l m n a => opb rfl rfl (by simp [go_sem]), trivial⟩ ?_
 intro f3 s3 W3 hB3 g3 hg3
 have fB3 := below_trans fB2 hB3.below
 have z3 := hB3.below.size
 have b3_0 := blk_below b2_0 hB3.below
 have b3_1 := blk_below b2_1 hB3.below
 have la3_1_1 := hB3.from' 1 (by decide)
 obtain ⟨g269', c272', g270', c273', g271', c274', r3_1, ⟨q275', q277', q276'⟩, ⟨q278', q280', q279'⟩, ⟨q281', q283', q282'⟩⟩ := hB3.is 1
 obtain ⟨g284', c285', r3_3, q286', q288', q287'⟩ := hB3.is 3
 obtain ⟨r3_4, br3_4⟩ := hB3.is 4
 have lr3_4 := hB3.lr 4 br3_4
 have la3_1 := hB3.from' 1 (by decide)
 have of3_1_4_0 := hB3.off 1 4 (by decide) (by decide) (by decide) q277' (fun W h => (NwBlk.lt h r3_1).1) (fun _ _ _ h => lt_of_blk h.2)
 have of3_1_4_1 := hB3.off 1 4 (by decide) (by decide) (by decide) q280' (fun W h => (NwBlk.lt h r3_1).2.1) (fun _ _ _ h => lt_of_blk h.2)
 have of3_1_4_2 := hB3.off 1 4 (by decide) (by decide) (by decide) q283' (fun W h => (NwBlk.lt h r3_1).2.2) (fun _ _ _ h => lt_of_blk h.2)
 have la3_3 := hB3.from' 3 (by decide)
 have of3_3_4_0 := hB3.off 3 4 (by decide) (by decide) (by decide) q288' (fun W h => NwIi.lt h r3_3) (fun _ _ _ h => lt_of_blk h.2)
 have k3_2 := kt hg3 2 k2_2
 have k3_3 := kt hg3 3 k2_3
 have k3_4 := kt hg3 4 k2_4
 have k3_6 := kt hg3 6 k2_6
 have k3_26 := kt hg3 26 r3_1
 have k3_28 := kt hg3 28 r3_3
 have k3_7 := kt hg3 7 r3_4
 obtain ⟨W4, hW4⟩ : ∃ W', W' = W3.setRow (s3 4) #[.int .i64 b.tab, .slice (some ⟨g269', 0, none⟩) (b.panels.length) (c272'), .int .i64 b.height, .slice (some ⟨g270', 0, none⟩) (b.top.length) (c273'), .slice (some ⟨g271', 0, none⟩) (b.bottom.length) (c274'), .int .i64 b.slot, .bool b.isOpen] := ⟨_, rfl⟩
 refine tail_skip (o := _) rfl ⟨rfl, rfl⟩ (run_seg hW4 (fr_ev k3_7) (fr_ev k3_26) br3_4 rfl rfl rfl rfl) ?_
 obtain ⟨fB4, nb4, ot4, z4⟩ := seg_facts hW4 fB3 br3_4 (by omega)
 clear hW4
 have b4_0 := ot4 _ _ (by omega) b3_0
 have b4_1 := ot4 _ _ (by omega) b3_1
 have q289' := (q275'.other ot4 q276' (by omega) z4)
 have q290' := Nat.lt_of_lt_of_le q276' z4
 have q291' := (q278'.other ot4 q279' (by omega) z4)
 have q292' := Nat.lt_of_lt_of_le q279' z4
 have q293' := (q281'.other ot4 q282' (by omega) z4)
 have q294' := Nat.lt_of_lt_of_le q282' z4
 have q295' := (q286'.other ot4 q287' (by omega) z4)
 have q296' := Nat.lt_of_lt_of_le q287' z4
 refine tail_value (o := _) rfl rfl rfl (v := .slice (some ⟨g284', 0, none⟩) ((thing).length) (c285')) (by simp [go_sem, frv 115 k3_28]) ?_
 generalize hg5 : upd g3 8 (.slice (some ⟨g284', 0, none⟩) ((thing).length) (c285')) = g5
 have k5_2 := ku hg5 2 k3_2
 have k5_3 := ku hg5 3 k3_3
 have k5_4 := ku hg5 4 k3_4
 have k5_6 := ku hg5 6 k3_6
 have k5_7 := ku hg5 7 k3_7
 have k5_8 := kt hg5 8 (upd_same _ _ _)
 refine wpOps_end ?_
 refine hK5 _ _ ?_
 refine wp_seq_k fun K6 hK6 => ?_
 refine region_dk 11 [(30, 0), (31, 1), (32, 2), (33, 3), (29, 4), (34, 5), (35, 6), (36, 7), (9, 8), (10, 9), (11, 10)] [[], [], [], [0, 1, 2], [0, 1, 2, 3], [0, 1, 2, 3, 4], [0, 1, 2, 3, 4], [0, 1, 2, 3, 4], [0, 1, 2, 3, 4, 5], [0, 1, 2, 3, 4, 5, 6, 8], [0, 1, 2, 3, 4, 5, 6, 7, 8, 9]] (rel [is (.agg #[.int .i64 b.tab, .slice (some ⟨g269', 0, none⟩) (b.panels.length) (c272'), .int .i64 b.height, .slice (some ⟨g270', 0, none⟩) (b.top.length) (c273'), .slice (some ⟨g271', 0, none⟩) (b.bottom.length) (c274'), .int .i64 b.slot, .bool b.isOpen]),
   is (.agg #[.int .i64 lo, .int .i64 hi]),
   is (.slice (some ⟨g284', 0, none⟩) ((thing).length) (c285')),
   is (.tuple #[.bool false, .bool false, .int .i64 2]),
   is (.tuple #[.bool false, .bool false, .int .i64 2]),
   is (.bool false),
   is (.bool false),
   is (.int .i64 2),
   is (.bool false),
   is (.bool false),
   is (.int .i64 2)])
  ⟨is_k, is_k, is_k, is_k, is_k, is_k, is_k, is_k, is_k, is_k, is_k, trivial⟩
  ⟨fun f s W i j l m n a => opv rfl rfl (by simp [go_sem, a.e 7 k5_7, Joins.cell_of_block (blk_below nb4 i) 0, Joins.cell_of_block (blk_below nb4 i) 1, Joins.cell_of_block (blk_below nb4 i) 2, Joins.cell_of_block (blk_below nb4 i) 3, Joins.cell_of_block (blk_below nb4 i) 4, Joins.cell_of_block (blk_below nb4 i) 5, Joins.cell_of_block (blk_below nb4 i) 6]) rfl,
  fun f s W i j l m n a => opv rfl rfl (by simp [go_sem, a.e 4 k5_4, Joins.cell_of_block (blk_below b4_1 i) 0, Joins.cell_of_block (blk_below b4_1 i) 1]) rfl,
  fun f s W i j l m n a => opv rfl rfl (by simp [go_sem, a.e 8 k5_8]) rfl,
  fun f s W i j l m n a => opDo_call (args := #[.agg #[.int .i64 b.tab, .slice (some ⟨g269', 0, none⟩) (b.panels.length) (c272'), .int .i64 b.height, .slice (some ⟨g270', 0, none⟩) (b.top.length) (c273'), .slice (some ⟨g271', 0, none⟩) (b.bottom.length) (c274'), .int .i64 b.slot, .bool b.isOpen], .agg #[.int .i64 lo, .int .i64 hi], .slice (some ⟨g284', 0, none⟩) ((thing).length) (c285')]) rfl rfl (by simp [go_sem, a.e 30 (j 0 rfl), a.e 31 (j 1 rfl), a.e 32 (j 2 rfl)]) (holds_any _ b lo hi _ _ _ thing W ⟨_, _, _, _, _, _, _, _, _, rfl, ((q289'.below i (Nat.le_refl _))), ((q291'.below i (Nat.le_refl _))), ((q293'.below i (Nat.le_refl _)))⟩ (q295'.below i (Nat.le_refl _))) ((fun e W' h => ⟨_, h.1, h.2, by show (Value.tuple #[.bool (if holdsErr b (lo, hi) thing = 0 then fitsOf b hi thing else false), .bool (if holdsErr b (lo, hi) thing = 0 then fitsOf b lo thing else false), .int .i64 (holdsErr b (lo, hi) thing)]) = _; rw [(holds_e4 hck hsp h3n hlo), if_neg (by decide), if_neg (by decide)]⟩)),
  fun f s W i j l m n a => opv rfl rfl (by simp [go_sem, a.e 33 (j 3 rfl)]) rfl,
  fun f s W i j l m n a => opv rfl rfl (by simp [go_sem, a.e 29 (j 4 rfl)]) rfl,
  fun f s W i j l m n a => opv rfl rfl (by simp [go_sem, a.e 29 (j 4 rfl)]) rfl,
  fun f s W i j l m n a => opv rfl rfl (by simp [go_sem, a.e 29 (j 4 rfl)]) rfl,
  fun f s W i j l m n a => opv rfl rfl (by simp [go_sem, a.e 34 (j 5 rfl)]) rfl,
  fun f s W i j l m n a => opv rfl rfl (by simp [go_sem, a.e 35 (j 6 rfl)]) rfl,
  fun f s W i j l m n a => opv rfl rfl (by simp [go_sem, a.e 36 (j 7 rfl)]) rfl, trivial⟩ ?_
 intro f6 s6 W6 hB6 g6 hg6
 have fB6 := below_trans fB4 hB6.below
 have z6 := hB6.below.size
 have b6_0 := blk_below b4_0 hB6.below
 have b6_1 := blk_below b4_1 hB6.below
 have b6_2 := blk_below nb4 hB6.below
 have q297' := (q289'.below hB6.below (Nat.le_refl _))
 have q298' := (Nat.lt_of_lt_of_le q290' (Below.size hB6.below))
 have q299' := (q291'.below hB6.below (Nat.le_refl _))
 have q300' := (Nat.lt_of_lt_of_le q292' (Below.size hB6.below))
 have q301' := (q293'.below hB6.below (Nat.le_refl _))
 have q302' := (Nat.lt_of_lt_of_le q294' (Below.size hB6.below))
 have q303' := q295'.below hB6.below (Nat.le_refl _)
 have q304' := (Nat.lt_of_lt_of_le q296' (Below.size hB6.below))
 refine hK6 _ _ ?_
 have k6_2 := kt hg6 2 k5_2
 have k6_3 := kt hg6 3 k5_3
 have k6_4 := kt hg6 4 k5_4
 have k6_6 := kt hg6 6 k5_6
 have k6_7 := kt hg6 7 k5_7
 have k6_8 := kt hg6 8 k5_8
 have k6_9 := kt hg6 9 (hB6.is 8)
 have k6_10 := kt hg6 10 (hB6.is 9)
 have k6_11 := kt hg6 11 (hB6.is 10)
 refine wp_seq_k fun K7 hK7 => ?_
 refine wp_seq_k fun K8 hK8 => ?_
 refine region_dk 10 [(37, 0), (38, 1), (39, 2), (40, 3), (41, 4), (42, 5), (43, 6), (44, 7), (45, 8), (46, 9)] [[], [], [0, 1], [0, 1, 2], [0, 1, 2, 3], [0, 1, 2, 3, 4], [0, 1, 2, 3, 4], [0, 1, 2, 3, 4, 5, 6], [0, 1, 2, 3, 4, 5, 6, 7], [0, 1, 2, 3, 4, 5, 6, 7, 8]] (rel [is (.agg #[.int .i64 b.tab, .slice (some ⟨g269', 0, none⟩) (b.panels.length) (c272'), .int .i64 b.height, .slice (some ⟨g270', 0, none⟩) (b.top.length) (c273'), .slice (some ⟨g271', 0, none⟩) (b.bottom.length) (c274'), .int .i64 b.slot, .bool b.isOpen]),
   is (.agg #[.int .i64 b.tab, .slice (a1) (b.panels.length) (c1), .int .i64 b.height, .slice (a2) (b.top.length) (c2), .slice (a3) (b.bottom.length) (c3), .int .i64 b.slot, .bool b.isOpen]),
   is (.bool true),
   is (.bool false),
   is (.bool false),
   gd (false) false (is (.slice (some ⟨g284', 0, none⟩) ((thing).length) (c285'))),
   gd (false) false (is (.slice (a4) (thing.length) (c4))),
   gd (false) false (is (.bool true)),
   gd (false) false (is (.bool false)),
   is (.bool false)])
  ⟨is_k, is_k, is_k, is_k, is_k, gd_k (is_k), gd_k (is_k), gd_k (is_k), gd_k (is_k), is_k, trivial⟩
  ⟨fun f s W i j l m n a => opv rfl rfl (by simp [go_sem, a.e 7 k6_7, Joins.cell_of_block (blk_below b6_2 i) 0, Joins.cell_of_block (blk_below b6_2 i) 1, Joins.cell_of_block (blk_below b6_2 i) 2, Joins.cell_of_block (blk_below b6_2 i) 3, Joins.cell_of_block (blk_below b6_2 i) 4, Joins.cell_of_block (blk_below b6_2 i) 5, Joins.cell_of_block (blk_below b6_2 i) 6]) rfl,
  fun f s W i j l m n a => opv rfl rfl (by simp [go_sem, a.e 3 k6_3, Joins.cell_of_block (blk_below b6_0 i) 0, Joins.cell_of_block (blk_below b6_0 i) 1, Joins.cell_of_block (blk_below b6_0 i) 2, Joins.cell_of_block (blk_below b6_0 i) 3, Joins.cell_of_block (blk_below b6_0 i) 4, Joins.cell_of_block (blk_below b6_0 i) 5, Joins.cell_of_block (blk_below b6_0 i) 6]) rfl,
  fun f s W i j l m n a => by have p := below_trans fB6 i; exact opDo_call (args := #[.agg #[.int .i64 b.tab, .slice (some ⟨g269', 0, none⟩) (b.panels.length) (c272'), .int .i64 b.height, .slice (some ⟨g270', 0, none⟩) (b.top.length) (c273'), .slice (some ⟨g271', 0, none⟩) (b.bottom.length) (c274'), .int .i64 b.slot, .bool b.isOpen], .agg #[.int .i64 b.tab, .slice (a1) (b.panels.length) (c1), .int .i64 b.height, .slice (a2) (b.top.length) (c2), .slice (a3) (b.bottom.length) (c3), .int .i64 b.slot, .bool b.isOpen]]) rfl rfl (by simp [go_sem, a.e 37 (j 0 rfl), a.e 38 (j 1 rfl)]) (same_blk (b := b) (d := b) ⟨_, _, _, _, _, _, _, _, _, rfl, ((q297'.below i (Nat.le_refl _))), ((q299'.below i (Nat.le_refl _))), ((q301'.below i (Nat.le_refl _)))⟩ ⟨_, _, _, _, _, _, _, _, _, rfl, (h1.below p (Nat.le_refl _)), (h2.below p (Nat.le_refl _)), (h3.below p (Nat.le_refl _))⟩) ((fun e W' h => by have h1 := h.1; rw [sameB_self] at h1; exact ⟨_, h1, h.2, rfl⟩)),
  fun f s W i j l m n a => opv rfl rfl (by simp [go_sem, a.e 39 (j 2 rfl)]) rfl,
  fun f s W i j l m n a => opv rfl rfl (by simp [go_sem, a.e 40 (j 3 rfl)]) rfl,
  fun f s W i j l m n a => gdo rfl rfl (a.says (d := 41) rfl rfl (j 4 rfl)) fun hgd0 => gv (by simp [go_sem, a.e 8 k6_8]) rfl,
  fun f s W i j l m n a => gdo rfl rfl (a.says (d := 41) rfl rfl (j 4 rfl)) fun hgd0 => gv (by simp [go_sem, a.e 2 k6_2]) rfl,
  fun f s W i j l m n a => gdo rfl rfl (a.says (d := 41) rfl rfl (j 4 rfl)) fun hgd0 => by have p := below_trans fB6 i; exact wp_called (args := #[.slice (some ⟨g284', 0, none⟩) ((thing).length) (c285'), .slice (a4) (thing.length) (c4)]) (by simp [go_sem, a.e 42 ((j 5 rfl).1 hgd0), a.e 43 ((j 6 rfl).1 hgd0)]) (intsEq_any _ _ thing _ _ thing W (q303'.below i (Nat.le_refl _)) (h4.below p (Nat.le_refl _))) ((fun e W' h => by have h1 := h.1; rw [beq_self_eq_true] at h1; exact ⟨_, h1, h.2, rfl⟩)),
  fun f s W i j l m n a => gdo rfl rfl (a.says (d := 41) rfl rfl (j 4 rfl)) fun hgd0 => gv (by simp [go_sem, a.e 44 ((j 7 rfl).1 hgd0)]) rfl,
  fun f s W i j l m n a => opk (c := false) rfl rfl (fun _ => by simp [go_sem, a.e 41 (j 4 rfl), a.e 45 ((j 8 rfl).1 rfl)]) (fun h => absurd h (by decide)), trivial⟩ ?_
 intro f7 s7 W7 hB7 g7 hg7
 have fB7 := below_trans fB6 hB7.below
 have z7 := hB7.below.size
 have b7_0 := blk_below b6_0 hB7.below
 have b7_1 := blk_below b6_1 hB7.below
 have b7_2 := blk_below b6_2 hB7.below
 have q305' := (q297'.below hB7.below (Nat.le_refl _))
 have q306' := (Nat.lt_of_lt_of_le q298' (Below.size hB7.below))
 have q307' := (q299'.below hB7.below (Nat.le_refl _))
 have q308' := (Nat.lt_of_lt_of_le q300' (Below.size hB7.below))
 have q309' := (q301'.below hB7.below (Nat.le_refl _))
 have q310' := (Nat.lt_of_lt_of_le q302' (Below.size hB7.below))
 have q311' := q303'.below hB7.below (Nat.le_refl _)
 have q312' := (Nat.lt_of_lt_of_le q304' (Below.size hB7.below))
 refine hK8 _ _ ?_
 have k7_2 := kt hg7 2 k6_2
 have k7_3 := kt hg7 3 k6_3
 have k7_4 := kt hg7 4 k6_4
 have k7_6 := kt hg7 6 k6_6
 have k7_9 := kt hg7 9 k6_9
 have k7_10 := kt hg7 10 k6_10
 have k7_11 := kt hg7 11 k6_11
 have k7_46 := kt hg7 46 (hB7.is 9)
 refine wp_cond_false ((fr_eval rfl).trans k7_46) ?_
 refine wp_skip ?_
 refine hK7 _ _ ?_
 refine wp_seq_k fun K10 hK10 => ?_
 refine region_dk 3 [(47, 0), (48, 1), (12, 2)] [[], [0], [0, 1]] (rel [is (.agg #[.int .i64 b.tab, .slice (a1) (b.panels.length) (c1), .int .i64 b.height, .slice (a2) (b.top.length) (c2), .slice (a3) (b.bottom.length) (c3), .int .i64 b.slot, .bool b.isOpen]),
   is (.int .i64 0),
   is (.int .i64 0)])
  ⟨is_k, is_k, is_k, trivial⟩
  ⟨fun f s W i j l m n a => opv rfl rfl (by simp [go_sem, a.e 3 k7_3, Joins.cell_of_block (blk_below b7_0 i) 0, Joins.cell_of_block (blk_below b7_0 i) 1, Joins.cell_of_block (blk_below b7_0 i) 2, Joins.cell_of_block (blk_below b7_0 i) 3, Joins.cell_of_block (blk_below b7_0 i) 4, Joins.cell_of_block (blk_below b7_0 i) 5, Joins.cell_of_block (blk_below b7_0 i) 6]) rfl,
  fun f s W i j l m n a => by have p := below_trans fB7 i; exact opDo_call (args := #[.agg #[.int .i64 b.tab, .slice (a1) (b.panels.length) (c1), .int .i64 b.height, .slice (a2) (b.top.length) (c2), .slice (a3) (b.bottom.length) (c3), .int .i64 b.slot, .bool b.isOpen]]) rfl rfl (by simp [go_sem, a.e 47 (j 0 rfl)]) (refCheck_blk ⟨_, _, _, _, _, _, _, _, _, rfl, (h1.below p (Nat.le_refl _)), (h2.below p (Nat.le_refl _)), (h3.below p (Nat.le_refl _))⟩) ((fun e W' h => by have h1 := h.1; rw [refCheck_eq, hck] at h1; exact ⟨_, h1, h.2, rfl⟩)),
  fun f s W i j l m n a => opv rfl rfl (by simp [go_sem, a.e 48 (j 1 rfl)]) rfl, trivial⟩ ?_
 intro f8 s8 W8 hB8 g8 hg8
 have fB8 := below_trans fB7 hB8.below
 have z8 := hB8.below.size
 have b8_0 := blk_below b7_0 hB8.below
 have b8_1 := blk_below b7_1 hB8.below
 have b8_2 := blk_below b7_2 hB8.below
 have q313' := (q305'.below hB8.below (Nat.le_refl _))
 have q314' := (Nat.lt_of_lt_of_le q306' (Below.size hB8.below))
 have q315' := (q307'.below hB8.below (Nat.le_refl _))
 have q316' := (Nat.lt_of_lt_of_le q308' (Below.size hB8.below))
 have q317' := (q309'.below hB8.below (Nat.le_refl _))
 have q318' := (Nat.lt_of_lt_of_le q310' (Below.size hB8.below))
 have q319' := q311'.below hB8.below (Nat.le_refl _)
 have q320' := (Nat.lt_of_lt_of_le q312' (Below.size hB8.below))
 refine hK10 _ _ ?_
 have k8_2 := kt hg8 2 k7_2
 have k8_3 := kt hg8 3 k7_3
 have k8_4 := kt hg8 4 k7_4
 have k8_6 := kt hg8 6 k7_6
 have k8_9 := kt hg8 9 k7_9
 have k8_10 := kt hg8 10 k7_10
 have k8_11 := kt hg8 11 k7_11
 have k8_12 := kt hg8 12 (hB8.is 2)
 refine wp_seq_k fun K11 hK11 => ?_
 refine wp_block ?_
 refine wp_seq_k fun K12 hK12 => ?_
 refine region_dk 3 [(50, 0), (51, 1), (49, 2)] [[], [0], [0, 1]] (rel [is (.int .i64 0),
   is (.bool false),
   is (.bool false)])
  ⟨is_k, is_k, is_k, trivial⟩
  ⟨fun f s W i j l m n a => opv rfl rfl (by simp [go_sem, a.e 12 k8_12]) rfl,
  fun f s W i j l m n a => opv rfl rfl (by simp [go_sem, a.e 50 (j 0 rfl)]) rfl,
  fun f s W i j l m n a => opv rfl rfl (by simp [go_sem, a.e 51 (j 1 rfl)]) rfl, trivial⟩ ?_
 intro f9 s9 W9 hB9 g9 hg9
 have fB9 := below_trans fB8 hB9.below
 have z9 := hB9.below.size
 have b9_0 := blk_below b8_0 hB9.below
 have b9_1 := blk_below b8_1 hB9.below
 have b9_2 := blk_below b8_2 hB9.below
 have q321' := (q313'.below hB9.below (Nat.le_refl _))
 have q322' := (Nat.lt_of_lt_of_le q314' (Below.size hB9.below))
 have q323' := (q315'.below hB9.below (Nat.le_refl _))
 have q324' := (Nat.lt_of_lt_of_le q316' (Below.size hB9.below))
 have q325' := (q317'.below hB9.below (Nat.le_refl _))
 have q326' := (Nat.lt_of_lt_of_le q318' (Below.size hB9.below))
 have q327' := q319'.below hB9.below (Nat.le_refl _)
 have q328' := (Nat.lt_of_lt_of_le q320' (Below.size hB9.below))
 refine hK12 _ _ ?_
 have k9_2 := kt hg9 2 k8_2
 have k9_3 := kt hg9 3 k8_3
 have k9_4 := kt hg9 4 k8_4
 have k9_6 := kt hg9 6 k8_6
 have k9_9 := kt hg9 9 k8_9
 have k9_10 := kt hg9 10 k8_10
 have k9_11 := kt hg9 11 k8_11
 have k9_12 := kt hg9 12 k8_12
 have k9_49 := kt hg9 49 (hB9.is 2)
 refine wp_cond_false ((fr_eval rfl).trans k9_49) ?_
 refine wp_seq_k fun K14 hK14 => ?_
 refine region_dk 4 [(53, 0), (54, 1), (55, 2), (52, 3)] [[], [0], [0, 1], [0, 1, 2]] (rel [is (.agg #[.int .i64 lo, .int .i64 hi]),
   is (.bool true),
   is (.bool false),
   is (.bool false)])
  ⟨is_k, is_k, is_k, is_k, trivial⟩
  ⟨fun f s W i j l m n a => opv rfl rfl (by simp [go_sem, a.e 4 k9_4, Joins.cell_of_block (blk_below b9_1 i) 0, Joins.cell_of_block (blk_below b9_1 i) 1]) rfl,
  fun f s W i j l m n a => opDo_call rfl rfl (by simp [go_sem, a.e 53 (j 0 rfl)]) (spanR_any lo hi 1 10000 W) ((fun e W' h => by have h1 := h.1; rw [spanR_eq, hsp] at h1; exact ⟨_, h1, h.2, rfl⟩)),
  fun f s W i j l m n a => opv rfl rfl (by simp [go_sem, a.e 54 (j 1 rfl)]) rfl,
  fun f s W i j l m n a => opv rfl rfl (by simp [go_sem, a.e 55 (j 2 rfl)]) rfl, trivial⟩ ?_
 intro f10 s10 W10 hB10 g10 hg10
 have fB10 := below_trans fB9 hB10.below
 have z10 := hB10.below.size
 have b10_0 := blk_below b9_0 hB10.below
 have b10_1 := blk_below b9_1 hB10.below
 have b10_2 := blk_below b9_2 hB10.below
 have q329' := (q321'.below hB10.below (Nat.le_refl _))
 have q330' := (Nat.lt_of_lt_of_le q322' (Below.size hB10.below))
 have q331' := (q323'.below hB10.below (Nat.le_refl _))
 have q332' := (Nat.lt_of_lt_of_le q324' (Below.size hB10.below))
 have q333' := (q325'.below hB10.below (Nat.le_refl _))
 have q334' := (Nat.lt_of_lt_of_le q326' (Below.size hB10.below))
 have q335' := q327'.below hB10.below (Nat.le_refl _)
 have q336' := (Nat.lt_of_lt_of_le q328' (Below.size hB10.below))
 refine hK14 _ _ ?_
 have k10_2 := kt hg10 2 k9_2
 have k10_3 := kt hg10 3 k9_3
 have k10_4 := kt hg10 4 k9_4
 have k10_6 := kt hg10 6 k9_6
 have k10_9 := kt hg10 9 k9_9
 have k10_10 := kt hg10 10 k9_10
 have k10_11 := kt hg10 11 k9_11
 have k10_12 := kt hg10 12 k9_12
 have k10_52 := kt hg10 52 (hB10.is 3)
 refine wp_cond_false ((fr_eval rfl).trans k10_52) ?_
 refine wp_seq_k fun K16 hK16 => ?_
 refine region_dk 4 [(57, 0), (58, 1), (59, 2), (56, 3)] [[], [0], [0, 1], [0, 1, 2]] (rel [is (.slice (a4) (thing.length) (c4)),
   is (.int .i64 ((thing.length : Int))),
   is (.bool false),
   is (.bool false)])
  ⟨is_k, is_k, is_k, is_k, trivial⟩
  ⟨fun f s W i j l m n a => opv rfl rfl (by simp [go_sem, a.e 2 k10_2]) rfl,
  fun f s W i j l m n a => opv rfl rfl (by simp [go_sem, a.e 57 (j 0 rfl)]) rfl,
  fun f s W i j l m n a => opv rfl rfl (by simp [go_sem, a.e 58 (j 1 rfl), hq3]) rfl,
  fun f s W i j l m n a => opv rfl rfl (by simp [go_sem, a.e 59 (j 2 rfl)]) rfl, trivial⟩ ?_
 intro f11 s11 W11 hB11 g11 hg11
 have fB11 := below_trans fB10 hB11.below
 have z11 := hB11.below.size
 have b11_0 := blk_below b10_0 hB11.below
 have b11_1 := blk_below b10_1 hB11.below
 have b11_2 := blk_below b10_2 hB11.below
 have q337' := (q329'.below hB11.below (Nat.le_refl _))
 have q338' := (Nat.lt_of_lt_of_le q330' (Below.size hB11.below))
 have q339' := (q331'.below hB11.below (Nat.le_refl _))
 have q340' := (Nat.lt_of_lt_of_le q332' (Below.size hB11.below))
 have q341' := (q333'.below hB11.below (Nat.le_refl _))
 have q342' := (Nat.lt_of_lt_of_le q334' (Below.size hB11.below))
 have q343' := q335'.below hB11.below (Nat.le_refl _)
 have q344' := (Nat.lt_of_lt_of_le q336' (Below.size hB11.below))
 refine hK16 _ _ ?_
 have k11_2 := kt hg11 2 k10_2
 have k11_3 := kt hg11 3 k10_3
 have k11_4 := kt hg11 4 k10_4
 have k11_6 := kt hg11 6 k10_6
 have k11_9 := kt hg11 9 k10_9
 have k11_10 := kt hg11 10 k10_10
 have k11_11 := kt hg11 11 k10_11
 have k11_12 := kt hg11 12 k10_12
 have k11_56 := kt hg11 56 (hB11.is 3)
 refine wp_cond_false ((fr_eval rfl).trans k11_56) ?_
 refine wp_seq_k fun K18 hK18 => ?_
 refine region_dk 4 [(61, 0), (62, 1), (63, 2), (60, 3)] [[], [0], [0, 1], [0, 1, 2]] (rel [is (.slice (a4) (thing.length) (c4)),
   is (.bool false),
   is (.bool true),
   is (.bool true)])
  ⟨is_k, is_k, is_k, is_k, trivial⟩
  ⟨fun f s W i j l m n a => opv rfl rfl (by simp [go_sem, a.e 2 k11_2]) rfl,
  fun f s W i j l m n a => by have p := below_trans fB11 i; exact opDo_call (args := #[.slice (a4) (thing.length) (c4), .int .i64 0]) rfl rfl (by simp [go_sem, a.e 61 (j 0 rfl)]) (long_any _ _ thing 0 W (h4.below p (Nat.le_refl _))) ((fun e W' h => by have h1 := h.1; rw [longB_eq, hlo] at h1; exact ⟨_, h1, h.2, rfl⟩)),
  fun f s W i j l m n a => opv rfl rfl (by simp [go_sem, a.e 62 (j 1 rfl)]) rfl,
  fun f s W i j l m n a => opv rfl rfl (by simp [go_sem, a.e 63 (j 2 rfl)]) rfl, trivial⟩ ?_
 intro f12 s12 W12 hB12 g12 hg12
 have fB12 := below_trans fB11 hB12.below
 have z12 := hB12.below.size
 have b12_0 := blk_below b11_0 hB12.below
 have b12_1 := blk_below b11_1 hB12.below
 have b12_2 := blk_below b11_2 hB12.below
 have q345' := (q337'.below hB12.below (Nat.le_refl _))
 have q346' := (Nat.lt_of_lt_of_le q338' (Below.size hB12.below))
 have q347' := (q339'.below hB12.below (Nat.le_refl _))
 have q348' := (Nat.lt_of_lt_of_le q340' (Below.size hB12.below))
 have q349' := (q341'.below hB12.below (Nat.le_refl _))
 have q350' := (Nat.lt_of_lt_of_le q342' (Below.size hB12.below))
 have q351' := q343'.below hB12.below (Nat.le_refl _)
 have q352' := (Nat.lt_of_lt_of_le q344' (Below.size hB12.below))
 refine hK18 _ _ ?_
 have k12_2 := kt hg12 2 k11_2
 have k12_3 := kt hg12 3 k11_3
 have k12_4 := kt hg12 4 k11_4
 have k12_6 := kt hg12 6 k11_6
 have k12_9 := kt hg12 9 k11_9
 have k12_10 := kt hg12 10 k11_10
 have k12_11 := kt hg12 11 k11_11
 have k12_12 := kt hg12 12 k11_12
 have k12_60 := kt hg12 60 (hB12.is 3)
 refine wp_cond_true ((fr_eval rfl).trans k12_60) ?_
 refine region_dk 1 [(12, 0)] [[]] (rel [is (.int .i64 2)])
  ⟨is_k, trivial⟩
  ⟨fun f s W i j l m n a => opv rfl rfl (by simp [go_sem]) rfl, trivial⟩ ?_
 intro f13 s13 W13 hB13 g13 hg13
 have fB13 := below_trans fB12 hB13.below
 have z13 := hB13.below.size
 have b13_0 := blk_below b12_0 hB13.below
 have b13_1 := blk_below b12_1 hB13.below
 have b13_2 := blk_below b12_2 hB13.below
 have q353' := (q345'.below hB13.below (Nat.le_refl _))
 have q354' := (Nat.lt_of_lt_of_le q346' (Below.size hB13.below))
 have q355' := (q347'.below hB13.below (Nat.le_refl _))
 have q356' := (Nat.lt_of_lt_of_le q348' (Below.size hB13.below))
 have q357' := (q349'.below hB13.below (Nat.le_refl _))
 have q358' := (Nat.lt_of_lt_of_le q350' (Below.size hB13.below))
 have q359' := q351'.below hB13.below (Nat.le_refl _)
 have q360' := (Nat.lt_of_lt_of_le q352' (Below.size hB13.below))
 refine wpOps_end ?_
 have k13_2 := kt hg13 2 k12_2
 have k13_3 := kt hg13 3 k12_3
 have k13_4 := kt hg13 4 k12_4
 have k13_6 := kt hg13 6 k12_6
 have k13_9 := kt hg13 9 k12_9
 have k13_10 := kt hg13 10 k12_10
 have k13_11 := kt hg13 11 k12_11
 have k13_12 := kt hg13 12 (hB13.is 0)
 refine inBlock_normal ?_
 refine hK11 _ _ ?_
 refine wp_seq_k fun K20 hK20 => ?_
 refine wp_seq_k fun K21 hK21 => ?_
 refine region_dk 2 [(64, 0), (65, 1)] [[], [0]] (rel [is (.int .i64 2),
   is (.bool true)])
  ⟨is_k, is_k, trivial⟩
  ⟨fun f s W i j l m n a => opv rfl rfl (by simp [go_sem, a.e 12 k13_12]) rfl,
  fun f s W i j l m n a => opv rfl rfl (by simp [go_sem, a.e 64 (j 0 rfl)]) rfl, trivial⟩ ?_
 intro f14 s14 W14 hB14 g14 hg14
 have fB14 := below_trans fB13 hB14.below
 have z14 := hB14.below.size
 have b14_0 := blk_below b13_0 hB14.below
 have b14_1 := blk_below b13_1 hB14.below
 have b14_2 := blk_below b13_2 hB14.below
 have q361' := (q353'.below hB14.below (Nat.le_refl _))
 have q362' := (Nat.lt_of_lt_of_le q354' (Below.size hB14.below))
 have q363' := (q355'.below hB14.below (Nat.le_refl _))
 have q364' := (Nat.lt_of_lt_of_le q356' (Below.size hB14.below))
 have q365' := (q357'.below hB14.below (Nat.le_refl _))
 have q366' := (Nat.lt_of_lt_of_le q358' (Below.size hB14.below))
 have q367' := q359'.below hB14.below (Nat.le_refl _)
 have q368' := (Nat.lt_of_lt_of_le q360' (Below.size hB14.below))
 refine hK21 _ _ ?_
 have k14_2 := kt hg14 2 k13_2
 have k14_3 := kt hg14 3 k13_3
 have k14_4 := kt hg14 4 k13_4
 have k14_6 := kt hg14 6 k13_6
 have k14_9 := kt hg14 9 k13_9
 have k14_10 := kt hg14 10 k13_10
 have k14_11 := kt hg14 11 k13_11
 have k14_12 := kt hg14 12 k13_12
 have k14_65 := kt hg14 65 (hB14.is 1)
 refine wp_cond_true ((fr_eval rfl).trans k14_65) ?_
 refine wp_seq_k fun K23 hK23 => ?_
 refine region_dk 15 [(66, 0), (67, 1), (68, 2), (69, 3), (70, 4), (71, 5), (72, 6), (73, 7), (74, 8), (75, 9), (76, 10), (77, 11), (78, 12), (79, 13), (6, 14)] [[], [], [0, 1], [0, 1, 2], [0, 1, 2, 3], [0, 1, 2, 3, 4], [0, 1, 2, 3, 4, 5], [0, 1, 2, 3, 4, 5, 6], [0, 1, 2, 3, 4, 5, 6, 7], [0, 1, 2, 3, 4, 5, 6, 7, 8], [0, 1, 2, 3, 4, 5, 6, 7, 8, 9], [0, 1, 2, 3, 4, 5, 6, 7, 8, 9, 10], [0, 1, 2, 3, 4, 5, 6, 7, 8, 9, 10, 11], [0, 1, 2, 3, 4, 5, 6, 7, 8, 9, 10, 11, 12], [0, 1, 2, 3, 4, 5, 6, 7, 8, 9, 10, 11, 12, 13]] (rel [is (.int .i64 2),
   is (.int .i64 2),
   is (.bool true),
   is (.bool true),
   gd (true) true (is (.bool false)),
   gd (true) true (is (.bool true)),
   is (.bool true),
   is (.bool true),
   gd (true) true (is (.bool false)),
   gd (true) true (is (.bool true)),
   is (.bool true),
   is (.bool true),
   gd (true) true (is (.bool true)),
   is (.bool true),
   is (.bool true)])
  ⟨is_k, is_k, is_k, is_k, gd_k (is_k), gd_k (is_k), is_k, is_k, gd_k (is_k), gd_k (is_k), is_k, is_k, gd_k (is_k), is_k, is_k, trivial⟩
  ⟨fun f s W i j l m n a => opv rfl rfl (by simp [go_sem, a.e 11 k14_11]) rfl,
  fun f s W i j l m n a => opv rfl rfl (by simp [go_sem, a.e 12 k14_12]) rfl,
  fun f s W i j l m n a => opv rfl rfl (by simp [go_sem, a.e 66 (j 0 rfl), a.e 67 (j 1 rfl)]) rfl,
  fun f s W i j l m n a => opv rfl rfl (by simp [go_sem, a.e 68 (j 2 rfl)]) rfl,
  fun f s W i j l m n a => gdo rfl rfl (a.says (d := 69) rfl rfl (j 3 rfl)) fun hgd0 => gv (by simp [go_sem, a.e 9 k14_9]) rfl,
  fun f s W i j l m n a => gdo rfl rfl (a.says (d := 69) rfl rfl (j 3 rfl)) fun hgd0 => gv (by simp [go_sem, a.e 70 ((j 4 rfl).1 hgd0)]) rfl,
  fun f s W i j l m n a => opk (c := true) rfl rfl (fun h => absurd h (by decide)) (fun _ => by simp [go_sem, a.e 69 (j 3 rfl), a.e 71 ((j 5 rfl).1 rfl)]),
  fun f s W i j l m n a => opv rfl rfl (by simp [go_sem, a.e 72 (j 6 rfl)]) rfl,
  fun f s W i j l m n a => gdo rfl rfl (a.says (d := 73) rfl rfl (j 7 rfl)) fun hgd0 => gv (by simp [go_sem, a.e 10 k14_10]) rfl,
  fun f s W i j l m n a => gdo rfl rfl (a.says (d := 73) rfl rfl (j 7 rfl)) fun hgd0 => gv (by simp [go_sem, a.e 74 ((j 8 rfl).1 hgd0)]) rfl,
  fun f s W i j l m n a => opk (c := true) rfl rfl (fun h => absurd h (by decide)) (fun _ => by simp [go_sem, a.e 73 (j 7 rfl), a.e 75 ((j 9 rfl).1 rfl)]),
  fun f s W i j l m n a => opv rfl rfl (by simp [go_sem, a.e 76 (j 10 rfl)]) rfl,
  fun f s W i j l m n a => gdo rfl rfl (a.says (d := 77) rfl rfl (j 11 rfl)) fun hgd0 => gc (by simp [go_sem]) (known_any W),
  fun f s W i j l m n a => opk (c := true) rfl rfl (fun h => absurd h (by decide)) (fun _ => by simp [go_sem, a.e 77 (j 11 rfl), a.e 78 ((j 12 rfl).1 rfl)]),
  fun f s W i j l m n a => opv rfl rfl (by simp [go_sem, a.e 79 (j 13 rfl)]) rfl, trivial⟩ ?_
 intro f15 s15 W15 hB15 g15 hg15
 have fB15 := below_trans fB14 hB15.below
 have z15 := hB15.below.size
 have b15_0 := blk_below b14_0 hB15.below
 have b15_1 := blk_below b14_1 hB15.below
 have b15_2 := blk_below b14_2 hB15.below
 have q369' := (q361'.below hB15.below (Nat.le_refl _))
 have q370' := (Nat.lt_of_lt_of_le q362' (Below.size hB15.below))
 have q371' := (q363'.below hB15.below (Nat.le_refl _))
 have q372' := (Nat.lt_of_lt_of_le q364' (Below.size hB15.below))
 have q373' := (q365'.below hB15.below (Nat.le_refl _))
 have q374' := (Nat.lt_of_lt_of_le q366' (Below.size hB15.below))
 have q375' := q367'.below hB15.below (Nat.le_refl _)
 have q376' := (Nat.lt_of_lt_of_le q368' (Below.size hB15.below))
 refine hK23 _ _ ?_
 have k15_2 := kt hg15 2 k14_2
 have k15_3 := kt hg15 3 k14_3
 have k15_4 := kt hg15 4 k14_4
 have k15_9 := kt hg15 9 k14_9
 have k15_10 := kt hg15 10 k14_10
 have k15_11 := kt hg15 11 k14_11
 have k15_6 := kt hg15 6 (hB15.is 14)
 refine wp_ret ?_
 refine then_ret ?_
 refine leave_one (N := 115) (v := .bool true) (.inr rfl) Try.results5 rfl k15_6 ?_
 exact ⟨rfl, fB15⟩
set_option maxRecDepth 100000 in
set_option maxHeartbeats 4000000 in
theorem holds_good (a1 a2 a3 : Option Addr) (c1 c2 c3 : Nat) (b : Bl) (lo hi : Int) (a4 : Option Addr) (c4 : Nat) (x y z : Int) (w : World) (h1 : Ii w a1 b.panels.length c1 b.panels) (h2 : Ii w a2 b.top.length c2 b.top) (h3 : Ii w a3 b.bottom.length c3 b.bottom) (h4 : Ii w a4 3 c4 [x, y, z]) (hl : largeB b = false) (hck : checkErr b = 0) (hsp : isSpan (lo, hi) 1 10000 = true) (hlo : areLong 0 [x, y, z] = true) :
  Calls Try.prog 5 #[.agg #[.int .i64 b.tab, .slice (a1) (b.panels.length) (c1), .int .i64 b.height, .slice (a2) (b.top.length) (c2), .slice (a3) (b.bottom.length) (c3), .int .i64 b.slot, .bool b.isOpen], .agg #[.int .i64 lo, .int .i64 hi], .slice (a4) (3) (c4)] w (fun e w' => e = .returned (.bool true) ∧ Below w.heap.size w w') := by
 have hm1 := h1.len_le
 have hm2 := h2.len_le
 have hm3 := h3.len_le
 obtain ⟨m1, m2, m3⟩ := large_false hl
 have n1 : b.panels.length ≤ 1000 := by omega
 have n2 : b.top.length ≤ 1000 := by omega
 have n3 : b.bottom.length ≤ 1000 := by omega
 have n4 : [x, y, z].length ≤ 1000 := by simp
 obtain ⟨⟨hl1, hl2, hl3⟩, gt, gs, gh, ⟨gp0, gp1, gp2, gp3⟩, gt0, gt1, gu0, gu1⟩ := good_nums hck
 obtain ⟨hs1, hs2, hs3⟩ := isSpan_iff.1 hsp
 have hxyz : (0 ≤ x ∧ x ≤ 3000) ∧ (0 ≤ y ∧ y ≤ 3000) ∧ (0 ≤ z ∧ z ≤ 3000) := by simpa [areLong, within, and_assoc] using hlo
 obtain ⟨gx, gy, gz⟩ := hxyz
 refine calls_fr Try.func5 Try.ntmps5 rfl rfl fun g hg => ?_
 have k0 : g 0 = .agg #[.int .i64 b.tab, .slice (a1) (b.panels.length) (c1), .int .i64 b.height, .slice (a2) (b.top.length) (c2), .slice (a3) (b.bottom.length) (c3), .int .i64 b.slot, .bool b.isOpen] := hg 0
 have k1 : g 1 = .agg #[.int .i64 lo, .int .i64 hi] := hg 1
 have k2 : g 2 = .slice (a4) (3) (c4) := hg 2
 clear hg
 have fB0 : Below w.heap.size w w := Below.refl _ _
 refine wp_seq_k fun K1 hK1 => ?_
 refine region_dk 3 [(3, 0), (4, 1), (6, 2)] [[], [], []] (rel [bx 0 #[.int .i64 b.tab, .slice (a1) (b.panels.length) (c1), .int .i64 b.height, .slice (a2) (b.top.length) (c2), .slice (a3) (b.bottom.length) (c3), .int .i64 b.slot, .bool b.isOpen] 24,
   bx 1 #[.int .i64 lo, .int .i64 hi] 37,
   is (.bool false)])
  ⟨bx_k, bx_k, is_k, trivial⟩
  ⟨fun f s W i j l m n a => opb rfl rfl (by simp [go_sem, a.e 0 k0]),
  fun f s W i j l m n a => opb rfl rfl (by simp [go_sem, a.e 1 k1]),
  fun f s W i j l m n a => opv rfl rfl (by simp [go_sem]) rfl, trivial⟩ ?_
 intro f1 s1 W1 hB1 g1 hg1
 have fB1 := below_trans fB0 hB1.below
 have z1 := hB1.below.size
 obtain ⟨r1_0, br1_0⟩ := hB1.is 0
 have lr1_0 := hB1.lr 0 br1_0
 obtain ⟨r1_1, br1_1⟩ := hB1.is 1
 have lr1_1 := hB1.lr 1 br1_1
 have ne1_0_1 := hB1.nb 0 1
 refine hK1 _ _ ?_
 have k1_2 := kt hg1 2 k2
 have k1_3 := kt hg1 3 r1_0
 have k1_4 := kt hg1 4 r1_1
 have k1_6 := kt hg1 6 (hB1.is 2)
 refine wp_seq_k fun K2 hK2 => ?_
 refine wp_seq_k fun K3 hK3 => ?_
 refine region_dk 7 [(17, 0), (18, 1), (19, 2), (20, 3), (21, 4), (22, 5), (23, 6)] [[], [0], [0, 1], [0, 1, 2], [0, 1, 2, 3], [0, 1, 2, 3, 4], [0, 1, 2, 3, 4, 5]] (rel [is (.agg #[.int .i64 b.tab, .slice (a1) (b.panels.length) (c1), .int .i64 b.height, .slice (a2) (b.top.length) (c2), .slice (a3) (b.bottom.length) (c3), .int .i64 b.slot, .bool b.isOpen]),
   is (.bool false),
   is (.bool false),
   gd (false) false (is (.slice (a4) (3) (c4))),
   gd (false) false (is (.int .i64 3)),
   gd (false) false (is (.bool false)),
   is (.bool false)])
  ⟨is_k, is_k, is_k, gd_k (is_k), gd_k (is_k), gd_k (is_k), is_k, trivial⟩
  ⟨fun f s W i j l m n a => opv rfl rfl (by simp [go_sem, a.e 3 k1_3, Joins.cell_of_block (blk_below br1_0 i) 0, Joins.cell_of_block (blk_below br1_0 i) 1, Joins.cell_of_block (blk_below br1_0 i) 2, Joins.cell_of_block (blk_below br1_0 i) 3, Joins.cell_of_block (blk_below br1_0 i) 4, Joins.cell_of_block (blk_below br1_0 i) 5, Joins.cell_of_block (blk_below br1_0 i) 6]) rfl,
  fun f s W i j l m n a => by have p := below_trans fB1 i; exact opDo_call rfl rfl (by simp [go_sem, a.e 17 (j 0 rfl)]) (large_any a1 a2 a3 c1 c2 c3 b W (h1.below p (Nat.le_refl _)) (h2.below p (Nat.le_refl _)) (h3.below p (Nat.le_refl _))) ((fun e W' h => by have h1 := h.1; rw [hl] at h1; exact ⟨_, h1, h.2, rfl⟩)),
  fun f s W i j l m n a => opv rfl rfl (by simp [go_sem, a.e 18 (j 1 rfl)]) rfl,
  fun f s W i j l m n a => gdo rfl rfl (a.says (d := 19) rfl rfl (j 2 rfl)) fun hgd0 => gv (by simp [go_sem, a.e 2 k1_2]) rfl,
  fun f s W i j l m n a => gdo rfl rfl (a.says (d := 19) rfl rfl (j 2 rfl)) fun hgd0 => gv (by simp [go_sem, a.e 20 ((j 3 rfl).1 hgd0)]) rfl,
  fun f s W i j l m n a => gdo rfl rfl (a.says (d := 19) rfl rfl (j 2 rfl)) fun hgd0 => gv (by simp [go_sem, a.e 21 ((j 4 rfl).1 hgd0)]) rfl,
  fun f s W i j l m n a => opk (c := false) rfl rfl (fun _ => by simp [go_sem, a.e 19 (j 2 rfl), a.e 22 ((j 5 rfl).1 rfl)]) (fun h => absurd h (by decide)), trivial⟩ ?_
 intro f2 s2 W2 hB2 g2 hg2
 have fB2 := below_trans fB1 hB2.below
 have z2 := hB2.below.size
 have b2_0 := blk_below br1_0 hB2.below
 have b2_1 := blk_below br1_1 hB2.below
 refine hK3 _ _ ?_
 have k2_2 := kt hg2 2 k1_2
 have k2_3 := kt hg2 3 k1_3
 have k2_4 := kt hg2 4 k1_4
 have k2_6 := kt hg2 6 k1_6
 have k2_23 := kt hg2 23 (hB2.is 6)
 refine wp_cond_false ((fr_eval rfl).trans k2_23) ?_
 refine wp_skip ?_
 refine hK2 _ _ ?_
 refine wp_seq_k fun K5 hK5 => ?_
 refine region_dk 5 [(25, 0), (26, 1), (27, 2), (28, 3), (7, 4), (8, 6)] [[], [0], [], [0, 1, 2], [], [0, 1, 2, 3, 4], [0, 1, 2, 3, 4, 5]] (rel [is (.agg #[.int .i64 b.tab, .slice (a1) (b.panels.length) (c1), .int .i64 b.height, .slice (a2) (b.top.length) (c2), .slice (a3) (b.bottom.length) (c3), .int .i64 b.slot, .bool b.isOpen]),
   fun v s W => NwBlk (s 1) (b) v W,
   is (.slice (a4) (3) (c4)),
   fun v s W => NwIi (s 3) ([x, y, z]) v W,
   bx 4 #[.int .i64 0, .slice (none) (0) (0), .int .i64 0, .slice (none) (0) (0), .slice (none) (0) (0), .int .i64 0, .bool false] 24])
  ⟨is_k, ⟨fun v k W W' hb h => h.below hb, fun v s s' W e h => by have h' : NwBlk (s 1) (b) v W := h; show NwBlk (s' 1) (b) v W; rw [← e 1 (by simp)]; exact h'⟩, is_k, ⟨fun v k W W' hb h => h.below hb, fun v s s' W e h => by have h' : NwIi (s 3) ([x, y, z]) v W := h; show NwIi (s' 3) ([x, y, z]) v W; rw [← e 3 (by simp)]; exact h'⟩, bx_k, trivial⟩
  ⟨fun f s W i j l m n a => opv rfl rfl (by simp [go_sem, a.e 3 k2_3, Joins.cell_of_block (blk_below b2_0 i) 0, Joins.cell_of_block (blk_below b2_0 i) 1, Joins.cell_of_block (blk_below b2_0 i) 2, Joins.cell_of_block (blk_below b2_0 i) 3, Joins.cell_of_block (blk_below b2_0 i) 4, Joins.cell_of_block (blk_below b2_0 i) 5, Joins.cell_of_block (blk_below b2_0 i) 6]) rfl,
  fun f s W i j l m n a => by have p := below_trans fB2 i; exact opDo_call rfl rfl (by simp [go_sem, a.e 25 (j 0 rfl)]) (own_any a1 a2 a3 c1 c2 c3 b W (h1.below p (Nat.le_refl _)) (h2.below p (Nat.le_refl _)) (h3.below p (Nat.le_refl _)) n1 n2 n3) (fun e W' h => by obtain ⟨v, e1, h1, h2⟩ := h; exact ⟨v, e1, h2, (show NwBlk (upd s 1 W.heap.size 1) (b) v W' from by rw [upd_at]; exact h1)⟩),
  fun f s W i j l m n a => opv rfl rfl (by simp [go_sem, a.e 2 k2_2]) rfl,
  fun f s W i j l m n a => by have p := below_trans fB2 i; exact opDo_call rfl rfl (by simp [go_sem, a.e 27 (j 2 rfl)]) (ints_any a4 c4 [x, y, z] W (h4.below p (Nat.le_refl _)) n4) (fun e W' h => by obtain ⟨v, e1, h1, h2⟩ := h; exact ⟨v, e1, h2, (show NwIi (upd s 3 W.heap.size 3) ([x, y, z]) v W' from by rw [upd_at]; exact h1)⟩),
  fun f s W i j l m n a => opb rfl rfl (by simp [go_sem]), trivial⟩ ?_
 intro f3 s3 W3 hB3 g3 hg3
 have fB3 := below_trans fB2 hB3.below
 have z3 := hB3.below.size
 have b3_0 := blk_below b2_0 hB3.below
 have b3_1 := blk_below b2_1 hB3.below
 have la3_1_1 := hB3.from' 1 (by decide)
 obtain ⟨g377', c380', g378', c381', g379', c382', r3_1, ⟨q383', q385', q384'⟩, ⟨q386', q388', q387'⟩, ⟨q389', q391', q390'⟩⟩ := hB3.is 1
 obtain ⟨g392', c393', r3_3, q394', q396', q395'⟩ := hB3.is 3
 obtain ⟨r3_4, br3_4⟩ := hB3.is 4
 have lr3_4 := hB3.lr 4 br3_4
 have la3_1 := hB3.from' 1 (by decide)
 have of3_1_4_0 := hB3.off 1 4 (by decide) (by decide) (by decide) q385' (fun W h => (NwBlk.lt h r3_1).1) (fun _ _ _ h => lt_of_blk h.2)
 have of3_1_4_1 := hB3.off 1 4 (by decide) (by decide) (by decide) q388' (fun W h => (NwBlk.lt h r3_1).2.1) (fun _ _ _ h => lt_of_blk h.2)
 have of3_1_4_2 := hB3.off 1 4 (by decide) (by decide) (by decide) q391' (fun W h => (NwBlk.lt h r3_1).2.2) (fun _ _ _ h => lt_of_blk h.2)
 have la3_3 := hB3.from' 3 (by decide)
 have of3_3_4_0 := hB3.off 3 4 (by decide) (by decide) (by decide) q396' (fun W h => NwIi.lt h r3_3) (fun _ _ _ h => lt_of_blk h.2)
 have k3_2 := kt hg3 2 k2_2
 have k3_3 := kt hg3 3 k2_3
 have k3_4 := kt hg3 4 k2_4
 have k3_6 := kt hg3 6 k2_6
 have k3_26 := kt hg3 26 r3_1
 have k3_28 := kt hg3 28 r3_3
 have k3_7 := kt hg3 7 r3_4
 obtain ⟨W4, hW4⟩ : ∃ W', W' = W3.setRow (s3 4) #[.int .i64 b.tab, .slice (some ⟨g377', 0, none⟩) (b.panels.length) (c380'), .int .i64 b.height, .slice (some ⟨g378', 0, none⟩) (b.top.length) (c381'), .slice (some ⟨g379', 0, none⟩) (b.bottom.length) (c382'), .int .i64 b.slot, .bool b.isOpen] := ⟨_, rfl⟩
 refine tail_skip (o := _) rfl ⟨rfl, rfl⟩ (run_seg hW4 (fr_ev k3_7) (fr_ev k3_26) br3_4 rfl rfl rfl rfl) ?_
 obtain ⟨fB4, nb4, ot4, z4⟩ := seg_facts hW4 fB3 br3_4 (by omega)
 clear hW4
 have b4_0 := ot4 _ _ (by omega) b3_0
 have b4_1 := ot4 _ _ (by omega) b3_1
 have q397' := (q383'.other ot4 q384' (by omega) z4)
 have q398' := Nat.lt_of_lt_of_le q384' z4
 have q399' := (q386'.other ot4 q387' (by omega) z4)
 have q400' := Nat.lt_of_lt_of_le q387' z4
 have q401' := (q389'.other ot4 q390' (by omega) z4)
 have q402' := Nat.lt_of_lt_of_le q390' z4
 have q403' := (q394'.other ot4 q395' (by omega) z4)
 have q404' := Nat.lt_of_lt_of_le q395' z4
 refine tail_value (o := _) rfl rfl rfl (v := .slice (some ⟨g392', 0, none⟩) (([x, y, z]).length) (c393')) (by simp [go_sem, frv 115 k3_28]) ?_
 generalize hg5 : upd g3 8 (.slice (some ⟨g392', 0, none⟩) (([x, y, z]).length) (c393')) = g5
 have k5_2 := ku hg5 2 k3_2
 have k5_3 := ku hg5 3 k3_3
 have k5_4 := ku hg5 4 k3_4
 have k5_6 := ku hg5 6 k3_6
 have k5_7 := ku hg5 7 k3_7
 have k5_8 := kt hg5 8 (upd_same _ _ _)
 refine wpOps_end ?_
 refine hK5 _ _ ?_
 refine wp_seq_k fun K6 hK6 => ?_
 refine region_dk 11 [(30, 0), (31, 1), (32, 2), (33, 3), (29, 4), (34, 5), (35, 6), (36, 7), (9, 8), (10, 9), (11, 10)] [[], [], [], [0, 1, 2], [0, 1, 2, 3], [0, 1, 2, 3, 4], [0, 1, 2, 3, 4], [0, 1, 2, 3, 4], [0, 1, 2, 3, 4, 5], [0, 1, 2, 3, 4, 5, 6, 8], [0, 1, 2, 3, 4, 5, 6, 7, 8, 9]] (rel [is (.agg #[.int .i64 b.tab, .slice (some ⟨g377', 0, none⟩) (b.panels.length) (c380'), .int .i64 b.height, .slice (some ⟨g378', 0, none⟩) (b.top.length) (c381'), .slice (some ⟨g379', 0, none⟩) (b.bottom.length) (c382'), .int .i64 b.slot, .bool b.isOpen]),
   is (.agg #[.int .i64 lo, .int .i64 hi]),
   is (.slice (some ⟨g392', 0, none⟩) (([x, y, z]).length) (c393')),
   is (.tuple #[.bool (insideB b hi x y z), .bool (insideB b lo x y z), .int .i64 0]),
   is (.tuple #[.bool (insideB b hi x y z), .bool (insideB b lo x y z), .int .i64 0]),
   is (.bool (insideB b hi x y z)),
   is (.bool (insideB b lo x y z)),
   is (.int .i64 0),
   is (.bool (insideB b hi x y z)),
   is (.bool (insideB b lo x y z)),
   is (.int .i64 0)])
  ⟨is_k, is_k, is_k, is_k, is_k, is_k, is_k, is_k, is_k, is_k, is_k, trivial⟩
  ⟨fun f s W i j l m n a => opv rfl rfl (by simp [go_sem, a.e 7 k5_7, Joins.cell_of_block (blk_below nb4 i) 0, Joins.cell_of_block (blk_below nb4 i) 1, Joins.cell_of_block (blk_below nb4 i) 2, Joins.cell_of_block (blk_below nb4 i) 3, Joins.cell_of_block (blk_below nb4 i) 4, Joins.cell_of_block (blk_below nb4 i) 5, Joins.cell_of_block (blk_below nb4 i) 6]) rfl,
  fun f s W i j l m n a => opv rfl rfl (by simp [go_sem, a.e 4 k5_4, Joins.cell_of_block (blk_below b4_1 i) 0, Joins.cell_of_block (blk_below b4_1 i) 1]) rfl,
  fun f s W i j l m n a => opv rfl rfl (by simp [go_sem, a.e 8 k5_8]) rfl,
  fun f s W i j l m n a => opDo_call (args := #[.agg #[.int .i64 b.tab, .slice (some ⟨g377', 0, none⟩) (b.panels.length) (c380'), .int .i64 b.height, .slice (some ⟨g378', 0, none⟩) (b.top.length) (c381'), .slice (some ⟨g379', 0, none⟩) (b.bottom.length) (c382'), .int .i64 b.slot, .bool b.isOpen], .agg #[.int .i64 lo, .int .i64 hi], .slice (some ⟨g392', 0, none⟩) (([x, y, z]).length) (c393')]) rfl rfl (by simp [go_sem, a.e 30 (j 0 rfl), a.e 31 (j 1 rfl), a.e 32 (j 2 rfl)]) (holds_any _ b lo hi _ _ _ [x, y, z] W ⟨_, _, _, _, _, _, _, _, _, rfl, ((q397'.below i (Nat.le_refl _))), ((q399'.below i (Nat.le_refl _))), ((q401'.below i (Nat.le_refl _)))⟩ (q403'.below i (Nat.le_refl _))) ((fun e W' h => ⟨_, h.1, h.2, by show (Value.tuple #[.bool (if holdsErr b (lo, hi) [x, y, z] = 0 then fitsOf b hi [x, y, z] else false), .bool (if holdsErr b (lo, hi) [x, y, z] = 0 then fitsOf b lo [x, y, z] else false), .int .i64 (holdsErr b (lo, hi) [x, y, z])]) = _; rw [holds_e5 hck hsp rfl hlo, if_pos rfl, if_pos rfl, inside_fits, inside_fits]⟩)),
  fun f s W i j l m n a => opv rfl rfl (by simp [go_sem, a.e 33 (j 3 rfl)]) rfl,
  fun f s W i j l m n a => opv rfl rfl (by simp [go_sem, a.e 29 (j 4 rfl)]) rfl,
  fun f s W i j l m n a => opv rfl rfl (by simp [go_sem, a.e 29 (j 4 rfl)]) rfl,
  fun f s W i j l m n a => opv rfl rfl (by simp [go_sem, a.e 29 (j 4 rfl)]) rfl,
  fun f s W i j l m n a => opv rfl rfl (by simp [go_sem, a.e 34 (j 5 rfl)]) rfl,
  fun f s W i j l m n a => opv rfl rfl (by simp [go_sem, a.e 35 (j 6 rfl)]) rfl,
  fun f s W i j l m n a => opv rfl rfl (by simp [go_sem, a.e 36 (j 7 rfl)]) rfl, trivial⟩ ?_
 intro f6 s6 W6 hB6 g6 hg6
 have fB6 := below_trans fB4 hB6.below
 have z6 := hB6.below.size
 have b6_0 := blk_below b4_0 hB6.below
 have b6_1 := blk_below b4_1 hB6.below
 have b6_2 := blk_below nb4 hB6.below
 have q405' := (q397'.below hB6.below (Nat.le_refl _))
 have q406' := (Nat.lt_of_lt_of_le q398' (Below.size hB6.below))
 have q407' := (q399'.below hB6.below (Nat.le_refl _))
 have q408' := (Nat.lt_of_lt_of_le q400' (Below.size hB6.below))
 have q409' := (q401'.below hB6.below (Nat.le_refl _))
 have q410' := (Nat.lt_of_lt_of_le q402' (Below.size hB6.below))
 have q411' := q403'.below hB6.below (Nat.le_refl _)
 have q412' := (Nat.lt_of_lt_of_le q404' (Below.size hB6.below))
 refine hK6 _ _ ?_
 have k6_2 := kt hg6 2 k5_2
 have k6_3 := kt hg6 3 k5_3
 have k6_4 := kt hg6 4 k5_4
 have k6_6 := kt hg6 6 k5_6
 have k6_7 := kt hg6 7 k5_7
 have k6_8 := kt hg6 8 k5_8
 have k6_9 := kt hg6 9 (hB6.is 8)
 have k6_10 := kt hg6 10 (hB6.is 9)
 have k6_11 := kt hg6 11 (hB6.is 10)
 refine wp_seq_k fun K7 hK7 => ?_
 refine wp_seq_k fun K8 hK8 => ?_
 refine region_dk 10 [(37, 0), (38, 1), (39, 2), (40, 3), (41, 4), (42, 5), (43, 6), (44, 7), (45, 8), (46, 9)] [[], [], [0, 1], [0, 1, 2], [0, 1, 2, 3], [0, 1, 2, 3, 4], [0, 1, 2, 3, 4], [0, 1, 2, 3, 4, 5, 6], [0, 1, 2, 3, 4, 5, 6, 7], [0, 1, 2, 3, 4, 5, 6, 7, 8]] (rel [is (.agg #[.int .i64 b.tab, .slice (some ⟨g377', 0, none⟩) (b.panels.length) (c380'), .int .i64 b.height, .slice (some ⟨g378', 0, none⟩) (b.top.length) (c381'), .slice (some ⟨g379', 0, none⟩) (b.bottom.length) (c382'), .int .i64 b.slot, .bool b.isOpen]),
   is (.agg #[.int .i64 b.tab, .slice (a1) (b.panels.length) (c1), .int .i64 b.height, .slice (a2) (b.top.length) (c2), .slice (a3) (b.bottom.length) (c3), .int .i64 b.slot, .bool b.isOpen]),
   is (.bool true),
   is (.bool false),
   is (.bool false),
   gd (false) false (is (.slice (some ⟨g392', 0, none⟩) (([x, y, z]).length) (c393'))),
   gd (false) false (is (.slice (a4) (3) (c4))),
   gd (false) false (is (.bool true)),
   gd (false) false (is (.bool false)),
   is (.bool false)])
  ⟨is_k, is_k, is_k, is_k, is_k, gd_k (is_k), gd_k (is_k), gd_k (is_k), gd_k (is_k), is_k, trivial⟩
  ⟨fun f s W i j l m n a => opv rfl rfl (by simp [go_sem, a.e 7 k6_7, Joins.cell_of_block (blk_below b6_2 i) 0, Joins.cell_of_block (blk_below b6_2 i) 1, Joins.cell_of_block (blk_below b6_2 i) 2, Joins.cell_of_block (blk_below b6_2 i) 3, Joins.cell_of_block (blk_below b6_2 i) 4, Joins.cell_of_block (blk_below b6_2 i) 5, Joins.cell_of_block (blk_below b6_2 i) 6]) rfl,
  fun f s W i j l m n a => opv rfl rfl (by simp [go_sem, a.e 3 k6_3, Joins.cell_of_block (blk_below b6_0 i) 0, Joins.cell_of_block (blk_below b6_0 i) 1, Joins.cell_of_block (blk_below b6_0 i) 2, Joins.cell_of_block (blk_below b6_0 i) 3, Joins.cell_of_block (blk_below b6_0 i) 4, Joins.cell_of_block (blk_below b6_0 i) 5, Joins.cell_of_block (blk_below b6_0 i) 6]) rfl,
  fun f s W i j l m n a => by have p := below_trans fB6 i; exact opDo_call (args := #[.agg #[.int .i64 b.tab, .slice (some ⟨g377', 0, none⟩) (b.panels.length) (c380'), .int .i64 b.height, .slice (some ⟨g378', 0, none⟩) (b.top.length) (c381'), .slice (some ⟨g379', 0, none⟩) (b.bottom.length) (c382'), .int .i64 b.slot, .bool b.isOpen], .agg #[.int .i64 b.tab, .slice (a1) (b.panels.length) (c1), .int .i64 b.height, .slice (a2) (b.top.length) (c2), .slice (a3) (b.bottom.length) (c3), .int .i64 b.slot, .bool b.isOpen]]) rfl rfl (by simp [go_sem, a.e 37 (j 0 rfl), a.e 38 (j 1 rfl)]) (same_blk (b := b) (d := b) ⟨_, _, _, _, _, _, _, _, _, rfl, ((q405'.below i (Nat.le_refl _))), ((q407'.below i (Nat.le_refl _))), ((q409'.below i (Nat.le_refl _)))⟩ ⟨_, _, _, _, _, _, _, _, _, rfl, (h1.below p (Nat.le_refl _)), (h2.below p (Nat.le_refl _)), (h3.below p (Nat.le_refl _))⟩) ((fun e W' h => by have h1 := h.1; rw [sameB_self] at h1; exact ⟨_, h1, h.2, rfl⟩)),
  fun f s W i j l m n a => opv rfl rfl (by simp [go_sem, a.e 39 (j 2 rfl)]) rfl,
  fun f s W i j l m n a => opv rfl rfl (by simp [go_sem, a.e 40 (j 3 rfl)]) rfl,
  fun f s W i j l m n a => gdo rfl rfl (a.says (d := 41) rfl rfl (j 4 rfl)) fun hgd0 => gv (by simp [go_sem, a.e 8 k6_8]) rfl,
  fun f s W i j l m n a => gdo rfl rfl (a.says (d := 41) rfl rfl (j 4 rfl)) fun hgd0 => gv (by simp [go_sem, a.e 2 k6_2]) rfl,
  fun f s W i j l m n a => gdo rfl rfl (a.says (d := 41) rfl rfl (j 4 rfl)) fun hgd0 => by have p := below_trans fB6 i; exact wp_called (args := #[.slice (some ⟨g392', 0, none⟩) (([x, y, z]).length) (c393'), .slice (a4) (3) (c4)]) (by simp [go_sem, a.e 42 ((j 5 rfl).1 hgd0), a.e 43 ((j 6 rfl).1 hgd0)]) (intsEq_any _ _ [x, y, z] _ _ [x, y, z] W (q411'.below i (Nat.le_refl _)) (h4.below p (Nat.le_refl _))) ((fun e W' h => by have h1 := h.1; rw [beq_self_eq_true] at h1; exact ⟨_, h1, h.2, rfl⟩)),
  fun f s W i j l m n a => gdo rfl rfl (a.says (d := 41) rfl rfl (j 4 rfl)) fun hgd0 => gv (by simp [go_sem, a.e 44 ((j 7 rfl).1 hgd0)]) rfl,
  fun f s W i j l m n a => opk (c := false) rfl rfl (fun _ => by simp [go_sem, a.e 41 (j 4 rfl), a.e 45 ((j 8 rfl).1 rfl)]) (fun h => absurd h (by decide)), trivial⟩ ?_
 intro f7 s7 W7 hB7 g7 hg7
 have fB7 := below_trans fB6 hB7.below
 have z7 := hB7.below.size
 have b7_0 := blk_below b6_0 hB7.below
 have b7_1 := blk_below b6_1 hB7.below
 have b7_2 := blk_below b6_2 hB7.below
 have q413' := (q405'.below hB7.below (Nat.le_refl _))
 have q414' := (Nat.lt_of_lt_of_le q406' (Below.size hB7.below))
 have q415' := (q407'.below hB7.below (Nat.le_refl _))
 have q416' := (Nat.lt_of_lt_of_le q408' (Below.size hB7.below))
 have q417' := (q409'.below hB7.below (Nat.le_refl _))
 have q418' := (Nat.lt_of_lt_of_le q410' (Below.size hB7.below))
 have q419' := q411'.below hB7.below (Nat.le_refl _)
 have q420' := (Nat.lt_of_lt_of_le q412' (Below.size hB7.below))
 refine hK8 _ _ ?_
 have k7_2 := kt hg7 2 k6_2
 have k7_3 := kt hg7 3 k6_3
 have k7_4 := kt hg7 4 k6_4
 have k7_6 := kt hg7 6 k6_6
 have k7_9 := kt hg7 9 k6_9
 have k7_10 := kt hg7 10 k6_10
 have k7_11 := kt hg7 11 k6_11
 have k7_46 := kt hg7 46 (hB7.is 9)
 refine wp_cond_false ((fr_eval rfl).trans k7_46) ?_
 refine wp_skip ?_
 refine hK7 _ _ ?_
 refine wp_seq_k fun K10 hK10 => ?_
 refine region_dk 3 [(47, 0), (48, 1), (12, 2)] [[], [0], [0, 1]] (rel [is (.agg #[.int .i64 b.tab, .slice (a1) (b.panels.length) (c1), .int .i64 b.height, .slice (a2) (b.top.length) (c2), .slice (a3) (b.bottom.length) (c3), .int .i64 b.slot, .bool b.isOpen]),
   is (.int .i64 0),
   is (.int .i64 0)])
  ⟨is_k, is_k, is_k, trivial⟩
  ⟨fun f s W i j l m n a => opv rfl rfl (by simp [go_sem, a.e 3 k7_3, Joins.cell_of_block (blk_below b7_0 i) 0, Joins.cell_of_block (blk_below b7_0 i) 1, Joins.cell_of_block (blk_below b7_0 i) 2, Joins.cell_of_block (blk_below b7_0 i) 3, Joins.cell_of_block (blk_below b7_0 i) 4, Joins.cell_of_block (blk_below b7_0 i) 5, Joins.cell_of_block (blk_below b7_0 i) 6]) rfl,
  fun f s W i j l m n a => by have p := below_trans fB7 i; exact opDo_call (args := #[.agg #[.int .i64 b.tab, .slice (a1) (b.panels.length) (c1), .int .i64 b.height, .slice (a2) (b.top.length) (c2), .slice (a3) (b.bottom.length) (c3), .int .i64 b.slot, .bool b.isOpen]]) rfl rfl (by simp [go_sem, a.e 47 (j 0 rfl)]) (refCheck_blk ⟨_, _, _, _, _, _, _, _, _, rfl, (h1.below p (Nat.le_refl _)), (h2.below p (Nat.le_refl _)), (h3.below p (Nat.le_refl _))⟩) ((fun e W' h => by have h1 := h.1; rw [refCheck_eq, hck] at h1; exact ⟨_, h1, h.2, rfl⟩)),
  fun f s W i j l m n a => opv rfl rfl (by simp [go_sem, a.e 48 (j 1 rfl)]) rfl, trivial⟩ ?_
 intro f8 s8 W8 hB8 g8 hg8
 have fB8 := below_trans fB7 hB8.below
 have z8 := hB8.below.size
 have b8_0 := blk_below b7_0 hB8.below
 have b8_1 := blk_below b7_1 hB8.below
 have b8_2 := blk_below b7_2 hB8.below
 have q421' := (q413'.below hB8.below (Nat.le_refl _))
 have q422' := (Nat.lt_of_lt_of_le q414' (Below.size hB8.below))
 have q423' := (q415'.below hB8.below (Nat.le_refl _))
 have q424' := (Nat.lt_of_lt_of_le q416' (Below.size hB8.below))
 have q425' := (q417'.below hB8.below (Nat.le_refl _))
 have q426' := (Nat.lt_of_lt_of_le q418' (Below.size hB8.below))
 have q427' := q419'.below hB8.below (Nat.le_refl _)
 have q428' := (Nat.lt_of_lt_of_le q420' (Below.size hB8.below))
 refine hK10 _ _ ?_
 have k8_2 := kt hg8 2 k7_2
 have k8_3 := kt hg8 3 k7_3
 have k8_4 := kt hg8 4 k7_4
 have k8_6 := kt hg8 6 k7_6
 have k8_9 := kt hg8 9 k7_9
 have k8_10 := kt hg8 10 k7_10
 have k8_11 := kt hg8 11 k7_11
 have k8_12 := kt hg8 12 (hB8.is 2)
 refine wp_seq_k fun K11 hK11 => ?_
 refine wp_block ?_
 refine wp_seq_k fun K12 hK12 => ?_
 refine region_dk 3 [(50, 0), (51, 1), (49, 2)] [[], [0], [0, 1]] (rel [is (.int .i64 0),
   is (.bool false),
   is (.bool false)])
  ⟨is_k, is_k, is_k, trivial⟩
  ⟨fun f s W i j l m n a => opv rfl rfl (by simp [go_sem, a.e 12 k8_12]) rfl,
  fun f s W i j l m n a => opv rfl rfl (by simp [go_sem, a.e 50 (j 0 rfl)]) rfl,
  fun f s W i j l m n a => opv rfl rfl (by simp [go_sem, a.e 51 (j 1 rfl)]) rfl, trivial⟩ ?_
 intro f9 s9 W9 hB9 g9 hg9
 have fB9 := below_trans fB8 hB9.below
 have z9 := hB9.below.size
 have b9_0 := blk_below b8_0 hB9.below
 have b9_1 := blk_below b8_1 hB9.below
 have b9_2 := blk_below b8_2 hB9.below
 have q429' := (q421'.below hB9.below (Nat.le_refl _))
 have q430' := (Nat.lt_of_lt_of_le q422' (Below.size hB9.below))
 have q431' := (q423'.below hB9.below (Nat.le_refl _))
 have q432' := (Nat.lt_of_lt_of_le q424' (Below.size hB9.below))
 have q433' := (q425'.below hB9.below (Nat.le_refl _))
 have q434' := (Nat.lt_of_lt_of_le q426' (Below.size hB9.below))
 have q435' := q427'.below hB9.below (Nat.le_refl _)
 have q436' := (Nat.lt_of_lt_of_le q428' (Below.size hB9.below))
 refine hK12 _ _ ?_
 have k9_2 := kt hg9 2 k8_2
 have k9_3 := kt hg9 3 k8_3
 have k9_4 := kt hg9 4 k8_4
 have k9_6 := kt hg9 6 k8_6
 have k9_9 := kt hg9 9 k8_9
 have k9_10 := kt hg9 10 k8_10
 have k9_11 := kt hg9 11 k8_11
 have k9_12 := kt hg9 12 k8_12
 have k9_49 := kt hg9 49 (hB9.is 2)
 refine wp_cond_false ((fr_eval rfl).trans k9_49) ?_
 refine wp_seq_k fun K14 hK14 => ?_
 refine region_dk 4 [(53, 0), (54, 1), (55, 2), (52, 3)] [[], [0], [0, 1], [0, 1, 2]] (rel [is (.agg #[.int .i64 lo, .int .i64 hi]),
   is (.bool true),
   is (.bool false),
   is (.bool false)])
  ⟨is_k, is_k, is_k, is_k, trivial⟩
  ⟨fun f s W i j l m n a => opv rfl rfl (by simp [go_sem, a.e 4 k9_4, Joins.cell_of_block (blk_below b9_1 i) 0, Joins.cell_of_block (blk_below b9_1 i) 1]) rfl,
  fun f s W i j l m n a => opDo_call rfl rfl (by simp [go_sem, a.e 53 (j 0 rfl)]) (spanR_any lo hi 1 10000 W) ((fun e W' h => by have h1 := h.1; rw [spanR_eq, hsp] at h1; exact ⟨_, h1, h.2, rfl⟩)),
  fun f s W i j l m n a => opv rfl rfl (by simp [go_sem, a.e 54 (j 1 rfl)]) rfl,
  fun f s W i j l m n a => opv rfl rfl (by simp [go_sem, a.e 55 (j 2 rfl)]) rfl, trivial⟩ ?_
 intro f10 s10 W10 hB10 g10 hg10
 have fB10 := below_trans fB9 hB10.below
 have z10 := hB10.below.size
 have b10_0 := blk_below b9_0 hB10.below
 have b10_1 := blk_below b9_1 hB10.below
 have b10_2 := blk_below b9_2 hB10.below
 have q437' := (q429'.below hB10.below (Nat.le_refl _))
 have q438' := (Nat.lt_of_lt_of_le q430' (Below.size hB10.below))
 have q439' := (q431'.below hB10.below (Nat.le_refl _))
 have q440' := (Nat.lt_of_lt_of_le q432' (Below.size hB10.below))
 have q441' := (q433'.below hB10.below (Nat.le_refl _))
 have q442' := (Nat.lt_of_lt_of_le q434' (Below.size hB10.below))
 have q443' := q435'.below hB10.below (Nat.le_refl _)
 have q444' := (Nat.lt_of_lt_of_le q436' (Below.size hB10.below))
 refine hK14 _ _ ?_
 have k10_2 := kt hg10 2 k9_2
 have k10_3 := kt hg10 3 k9_3
 have k10_4 := kt hg10 4 k9_4
 have k10_6 := kt hg10 6 k9_6
 have k10_9 := kt hg10 9 k9_9
 have k10_10 := kt hg10 10 k9_10
 have k10_11 := kt hg10 11 k9_11
 have k10_12 := kt hg10 12 k9_12
 have k10_52 := kt hg10 52 (hB10.is 3)
 refine wp_cond_false ((fr_eval rfl).trans k10_52) ?_
 refine wp_seq_k fun K16 hK16 => ?_
 refine region_dk 4 [(57, 0), (58, 1), (59, 2), (56, 3)] [[], [0], [0, 1], [0, 1, 2]] (rel [is (.slice (a4) (3) (c4)),
   is (.int .i64 3),
   is (.bool false),
   is (.bool false)])
  ⟨is_k, is_k, is_k, is_k, trivial⟩
  ⟨fun f s W i j l m n a => opv rfl rfl (by simp [go_sem, a.e 2 k10_2]) rfl,
  fun f s W i j l m n a => opv rfl rfl (by simp [go_sem, a.e 57 (j 0 rfl)]) rfl,
  fun f s W i j l m n a => opv rfl rfl (by simp [go_sem, a.e 58 (j 1 rfl)]) rfl,
  fun f s W i j l m n a => opv rfl rfl (by simp [go_sem, a.e 59 (j 2 rfl)]) rfl, trivial⟩ ?_
 intro f11 s11 W11 hB11 g11 hg11
 have fB11 := below_trans fB10 hB11.below
 have z11 := hB11.below.size
 have b11_0 := blk_below b10_0 hB11.below
 have b11_1 := blk_below b10_1 hB11.below
 have b11_2 := blk_below b10_2 hB11.below
 have q445' := (q437'.below hB11.below (Nat.le_refl _))
 have q446' := (Nat.lt_of_lt_of_le q438' (Below.size hB11.below))
 have q447' := (q439'.below hB11.below (Nat.le_refl _))
 have q448' := (Nat.lt_of_lt_of_le q440' (Below.size hB11.below))
 have q449' := (q441'.below hB11.below (Nat.le_refl _))
 have q450' := (Nat.lt_of_lt_of_le q442' (Below.size hB11.below))
 have q451' := q443'.below hB11.below (Nat.le_refl _)
 have q452' := (Nat.lt_of_lt_of_le q444' (Below.size hB11.below))
 refine hK16 _ _ ?_
 have k11_2 := kt hg11 2 k10_2
 have k11_3 := kt hg11 3 k10_3
 have k11_4 := kt hg11 4 k10_4
 have k11_6 := kt hg11 6 k10_6
 have k11_9 := kt hg11 9 k10_9
 have k11_10 := kt hg11 10 k10_10
 have k11_11 := kt hg11 11 k10_11
 have k11_12 := kt hg11 12 k10_12
 have k11_56 := kt hg11 56 (hB11.is 3)
 refine wp_cond_false ((fr_eval rfl).trans k11_56) ?_
 refine wp_seq_k fun K18 hK18 => ?_
 refine region_dk 4 [(61, 0), (62, 1), (63, 2), (60, 3)] [[], [0], [0, 1], [0, 1, 2]] (rel [is (.slice (a4) (3) (c4)),
   is (.bool true),
   is (.bool false),
   is (.bool false)])
  ⟨is_k, is_k, is_k, is_k, trivial⟩
  ⟨fun f s W i j l m n a => opv rfl rfl (by simp [go_sem, a.e 2 k11_2]) rfl,
  fun f s W i j l m n a => by have p := below_trans fB11 i; exact opDo_call (args := #[.slice (a4) (3) (c4), .int .i64 0]) rfl rfl (by simp [go_sem, a.e 61 (j 0 rfl)]) (long_any _ _ [x, y, z] 0 W (h4.below p (Nat.le_refl _))) ((fun e W' h => by have h1 := h.1; rw [longB_eq, hlo] at h1; exact ⟨_, h1, h.2, rfl⟩)),
  fun f s W i j l m n a => opv rfl rfl (by simp [go_sem, a.e 62 (j 1 rfl)]) rfl,
  fun f s W i j l m n a => opv rfl rfl (by simp [go_sem, a.e 63 (j 2 rfl)]) rfl, trivial⟩ ?_
 intro f12 s12 W12 hB12 g12 hg12
 have fB12 := below_trans fB11 hB12.below
 have z12 := hB12.below.size
 have b12_0 := blk_below b11_0 hB12.below
 have b12_1 := blk_below b11_1 hB12.below
 have b12_2 := blk_below b11_2 hB12.below
 have q453' := (q445'.below hB12.below (Nat.le_refl _))
 have q454' := (Nat.lt_of_lt_of_le q446' (Below.size hB12.below))
 have q455' := (q447'.below hB12.below (Nat.le_refl _))
 have q456' := (Nat.lt_of_lt_of_le q448' (Below.size hB12.below))
 have q457' := (q449'.below hB12.below (Nat.le_refl _))
 have q458' := (Nat.lt_of_lt_of_le q450' (Below.size hB12.below))
 have q459' := q451'.below hB12.below (Nat.le_refl _)
 have q460' := (Nat.lt_of_lt_of_le q452' (Below.size hB12.below))
 refine hK18 _ _ ?_
 have k12_2 := kt hg12 2 k11_2
 have k12_3 := kt hg12 3 k11_3
 have k12_4 := kt hg12 4 k11_4
 have k12_6 := kt hg12 6 k11_6
 have k12_9 := kt hg12 9 k11_9
 have k12_10 := kt hg12 10 k11_10
 have k12_11 := kt hg12 11 k11_11
 have k12_12 := kt hg12 12 k11_12
 have k12_60 := kt hg12 60 (hB12.is 3)
 refine wp_cond_false ((fr_eval rfl).trans k12_60) ?_
 refine wp_skip ?_
 refine inBlock_normal ?_
 refine hK11 _ _ ?_
 refine wp_seq_k fun K20 hK20 => ?_
 refine wp_seq_k fun K21 hK21 => ?_
 refine region_dk 2 [(64, 0), (65, 1)] [[], [0]] (rel [is (.int .i64 0),
   is (.bool false)])
  ⟨is_k, is_k, trivial⟩
  ⟨fun f s W i j l m n a => opv rfl rfl (by simp [go_sem, a.e 12 k12_12]) rfl,
  fun f s W i j l m n a => opv rfl rfl (by simp [go_sem, a.e 64 (j 0 rfl)]) rfl, trivial⟩ ?_
 intro f13 s13 W13 hB13 g13 hg13
 have fB13 := below_trans fB12 hB13.below
 have z13 := hB13.below.size
 have b13_0 := blk_below b12_0 hB13.below
 have b13_1 := blk_below b12_1 hB13.below
 have b13_2 := blk_below b12_2 hB13.below
 have q461' := (q453'.below hB13.below (Nat.le_refl _))
 have q462' := (Nat.lt_of_lt_of_le q454' (Below.size hB13.below))
 have q463' := (q455'.below hB13.below (Nat.le_refl _))
 have q464' := (Nat.lt_of_lt_of_le q456' (Below.size hB13.below))
 have q465' := (q457'.below hB13.below (Nat.le_refl _))
 have q466' := (Nat.lt_of_lt_of_le q458' (Below.size hB13.below))
 have q467' := q459'.below hB13.below (Nat.le_refl _)
 have q468' := (Nat.lt_of_lt_of_le q460' (Below.size hB13.below))
 refine hK21 _ _ ?_
 have k13_2 := kt hg13 2 k12_2
 have k13_3 := kt hg13 3 k12_3
 have k13_4 := kt hg13 4 k12_4
 have k13_6 := kt hg13 6 k12_6
 have k13_9 := kt hg13 9 k12_9
 have k13_10 := kt hg13 10 k12_10
 have k13_11 := kt hg13 11 k12_11
 have k13_12 := kt hg13 12 k12_12
 have k13_65 := kt hg13 65 (hB13.is 1)
 refine wp_cond_false ((fr_eval rfl).trans k13_65) ?_
 refine wp_skip ?_
 refine hK20 _ _ ?_
 refine wp_seq_k fun K23 hK23 => ?_
 refine region_dk 2 [(13, 0), (14, 1)] [[], [0]] (rel [is (.bool true),
   is (.bool false)])
  ⟨is_k, is_k, trivial⟩
  ⟨fun f s W i j l m n a => opv rfl rfl (by simp [go_sem]) rfl,
  fun f s W i j l m n a => opv rfl rfl (by simp [go_sem]) rfl, trivial⟩ ?_
 intro f14 s14 W14 hB14 g14 hg14
 have fB14 := below_trans fB13 hB14.below
 have z14 := hB14.below.size
 have b14_0 := blk_below b13_0 hB14.below
 have b14_1 := blk_below b13_1 hB14.below
 have b14_2 := blk_below b13_2 hB14.below
 have q469' := (q461'.below hB14.below (Nat.le_refl _))
 have q470' := (Nat.lt_of_lt_of_le q462' (Below.size hB14.below))
 have q471' := (q463'.below hB14.below (Nat.le_refl _))
 have q472' := (Nat.lt_of_lt_of_le q464' (Below.size hB14.below))
 have q473' := (q465'.below hB14.below (Nat.le_refl _))
 have q474' := (Nat.lt_of_lt_of_le q466' (Below.size hB14.below))
 have q475' := q467'.below hB14.below (Nat.le_refl _)
 have q476' := (Nat.lt_of_lt_of_le q468' (Below.size hB14.below))
 refine hK23 _ _ ?_
 have k14_2 := kt hg14 2 k13_2
 have k14_3 := kt hg14 3 k13_3
 have k14_4 := kt hg14 4 k13_4
 have k14_6 := kt hg14 6 k13_6
 have k14_9 := kt hg14 9 k13_9
 have k14_10 := kt hg14 10 k13_10
 have k14_11 := kt hg14 11 k13_11
 have k14_13 := kt hg14 13 (hB14.is 0)
 have k14_14 := kt hg14 14 (hB14.is 1)
 refine wp_seq_k fun K24 hK24 => ?_
 refine wp_seq_k fun K25 hK25 => ?_
 refine region_dk 3 [(80, 0), (81, 1), (15, 2)] [[], [0], [0, 1]] (rel [is (.pointer (some ⟨(s1 1), 0, none⟩)),
   is (.int .i64 lo),
   is (.int .i64 lo)])
  ⟨is_k, is_k, is_k, trivial⟩
  ⟨fun f s W i j l m n a => opv rfl rfl (by simp [go_sem, a.e 4 k14_4]) rfl,
  fun f s W i j l m n a => opv rfl rfl (by simp [go_sem, a.e 80 (j 0 rfl), Joins.cell_of_block (blk_below b14_1 i) 0]) rfl,
  fun f s W i j l m n a => opv rfl rfl (by simp [go_sem, a.e 81 (j 1 rfl)]) rfl, trivial⟩ ?_
 intro f15 s15 W15 hB15 g15 hg15
 have fB15 := below_trans fB14 hB15.below
 have z15 := hB15.below.size
 have b15_0 := blk_below b14_0 hB15.below
 have b15_1 := blk_below b14_1 hB15.below
 have b15_2 := blk_below b14_2 hB15.below
 have q477' := (q469'.below hB15.below (Nat.le_refl _))
 have q478' := (Nat.lt_of_lt_of_le q470' (Below.size hB15.below))
 have q479' := (q471'.below hB15.below (Nat.le_refl _))
 have q480' := (Nat.lt_of_lt_of_le q472' (Below.size hB15.below))
 have q481' := (q473'.below hB15.below (Nat.le_refl _))
 have q482' := (Nat.lt_of_lt_of_le q474' (Below.size hB15.below))
 have q483' := q475'.below hB15.below (Nat.le_refl _)
 have q484' := (Nat.lt_of_lt_of_le q476' (Below.size hB15.below))
 refine hK25 _ _ ?_
 have k15_2 := kt hg15 2 k14_2
 have k15_3 := kt hg15 3 k14_3
 have k15_4 := kt hg15 4 k14_4
 have k15_6 := kt hg15 6 k14_6
 have k15_9 := kt hg15 9 k14_9
 have k15_10 := kt hg15 10 k14_10
 have k15_11 := kt hg15 11 k14_11
 have k15_13 := kt hg15 13 k14_13
 have k15_14 := kt hg15 14 k14_14
 have k15_15 := kt hg15 15 (hB15.is 2)
 refine wp_block ?_
 refine wp_loop_n (fun m_ a_ W_ => ∃ g_ : Nat → Value, a_ = fr 115 g_ ∧ (∃ cal : Int, m_ = (hi + 1 - cal).toNat ∧ g_ 2 = .slice (a4) (3) (c4) ∧ g_ 3 = .pointer (some ⟨(s1 0), 0, none⟩) ∧ g_ 4 = .pointer (some ⟨(s1 1), 0, none⟩) ∧ g_ 6 = .bool false ∧ g_ 9 = .bool (insideB b hi x y z) ∧ g_ 10 = .bool (insideB b lo x y z) ∧ g_ 11 = .int .i64 0 ∧ g_ 15 = .int .i64 cal ∧ g_ 13 = .bool (allF b x y z lo cal) ∧ g_ 14 = .bool (someF b x y z lo cal) ∧ Below w.heap.size w W_ ∧ W15.heap.size ≤ W_.heap.size ∧ W_.heap[(s1 0)]? = some (.cells #[.int .i64 b.tab, .slice (a1) (b.panels.length) (c1), .int .i64 b.height, .slice (a2) (b.top.length) (c2), .slice (a3) (b.bottom.length) (c3), .int .i64 b.slot, .bool b.isOpen] 24 (0, 0)) ∧ W_.heap[(s1 1)]? = some (.cells #[.int .i64 lo, .int .i64 hi] 37 (0, 0)) ∧ W_.heap[(s3 4)]? = some (.cells #[.int .i64 b.tab, .slice (some ⟨g377', 0, none⟩) (b.panels.length) (c380'), .int .i64 b.height, .slice (some ⟨g378', 0, none⟩) (b.top.length) (c381'), .slice (some ⟨g379', 0, none⟩) (b.bottom.length) (c382'), .int .i64 b.slot, .bool b.isOpen] 24 (0, 0)) ∧ Ii W_ (some ⟨g377', 0, none⟩) (b).panels.length c380' (b).panels ∧ g377' < W_.heap.size ∧ Ii W_ (some ⟨g378', 0, none⟩) (b).top.length c381' (b).top ∧ g378' < W_.heap.size ∧ Ii W_ (some ⟨g379', 0, none⟩) (b).bottom.length c382' (b).bottom ∧ g379' < W_.heap.size ∧ Ii W_ (some ⟨g392', 0, none⟩) ([x, y, z]).length c393' ([x, y, z]) ∧ g392' < W_.heap.size ∧ (lo ≤ cal) ∧ (cal ≤ hi + 1))) ⟨_, g15, rfl, lo, rfl, k15_2, k15_3, k15_4, k15_6, k15_9, k15_10, k15_11, k15_15.trans (by rfl), k15_13.trans (by rw [← allF_start]), k15_14.trans (by rw [← someF_start]), fB15, Nat.le_refl _, b15_0, b15_1, b15_2, q477', q478', q479', q480', q481', q482', q483', q484', (Int.le_refl _), (by omega)⟩ ?_
 rintro _ _ W_485 ⟨g_485, rfl, cal, rfl, k_485_2, k_485_3, k_485_4, k_485_6, k_485_9, k_485_10, k_485_11, k_485_15, k_485_13, k_485_14, fB_485, z_485, b_485_0, b_485_1, b_485_2, q486', q487', q488', q489', q490', q491', q492', q493', lp0, lp1⟩
 refine wp_seq_k fun K26 hK26 => ?_
 refine wp_seq_k fun K27 hK27 => ?_
 refine region_dk 4 [(82, 0), (83, 1), (84, 2), (85, 3)] [[], [], [1], [0, 1, 2]] (rel [is (.int .i64 cal),
   is (.pointer (some ⟨(s1 1), 1, none⟩)),
   is (.int .i64 hi),
   is (.bool (decide (cal ≤ hi)))])
  ⟨is_k, is_k, is_k, is_k, trivial⟩
  ⟨fun f s W i j l m n a => opv rfl rfl (by simp [go_sem, a.e 15 k_485_15]) rfl,
  fun f s W i j l m n a => opv rfl rfl (by simp [go_sem, a.e 4 k_485_4]) rfl,
  fun f s W i j l m n a => opv rfl rfl (by simp [go_sem, a.e 83 (j 1 rfl), Joins.cell_of_block (blk_below b_485_1 i) 1]) rfl,
  fun f s W i j l m n a => opv rfl rfl (by simp [go_sem, a.e 82 (j 0 rfl), a.e 84 (j 2 rfl)]) rfl, trivial⟩ ?_
 intro f16 s16 W16 hB16 g16 hg16
 have fB16 := below_trans fB_485 hB16.below
 have z16 := hB16.below.size
 have b16_0 := blk_below b_485_0 hB16.below
 have b16_1 := blk_below b_485_1 hB16.below
 have b16_2 := blk_below b_485_2 hB16.below
 have q494' := (q486'.below hB16.below (Nat.le_refl _))
 have q495' := (Nat.lt_of_lt_of_le q487' (Below.size hB16.below))
 have q496' := (q488'.below hB16.below (Nat.le_refl _))
 have q497' := (Nat.lt_of_lt_of_le q489' (Below.size hB16.below))
 have q498' := (q490'.below hB16.below (Nat.le_refl _))
 have q499' := (Nat.lt_of_lt_of_le q491' (Below.size hB16.below))
 have q500' := q492'.below hB16.below (Nat.le_refl _)
 have q501' := (Nat.lt_of_lt_of_le q493' (Below.size hB16.below))
 refine hK27 _ _ ?_
 have k16_2 := kt hg16 2 k_485_2
 have k16_3 := kt hg16 3 k_485_3
 have k16_4 := kt hg16 4 k_485_4
 have k16_6 := kt hg16 6 k_485_6
 have k16_9 := kt hg16 9 k_485_9
 have k16_10 := kt hg16 10 k_485_10
 have k16_11 := kt hg16 11 k_485_11
 have k16_15 := kt hg16 15 k_485_15
 have k16_13 := kt hg16 13 k_485_13
 have k16_14 := kt hg16 14 k_485_14
 have k16_85 := kt hg16 85 (hB16.is 3)
 refine wp_cond_split (t := decide (cal ≤ hi)) ((fr_eval rfl).trans k16_85) (fun hc28 => ?_) (fun hc28 => ?_)
 ·
  have hc28' := hc28; try simp only [decide_eq_true_eq, decide_eq_false_iff_not, Bool.and_eq_true, Bool.or_eq_true, Bool.and_eq_false_iff, Bool.or_eq_false_iff, beq_iff_eq, bne_iff_ne, Bool.not_eq_true', Bool.not_eq_false', ne_eq, bne_eq_false_iff_eq, beq_eq_false_iff_ne] at hc28'
  refine wp_skip ?_
  refine hK26 _ _ ?_
  refine wp_seq_k fun K29 hK29 => ?_
  refine wp_block ?_
  refine wp_seq_k fun K30 hK30 => ?_
  refine region_dk 5 [(88, 0), (89, 1), (90, 2), (91, 3), (16, 4)] [[], [], [], [0, 1, 2], [0, 1, 2, 3]] (rel [is (.agg #[.int .i64 b.tab, .slice (a1) (b.panels.length) (c1), .int .i64 b.height, .slice (a2) (b.top.length) (c2), .slice (a3) (b.bottom.length) (c3), .int .i64 b.slot, .bool b.isOpen]),
   is (.int .i64 cal),
   is (.slice (a4) (3) (c4)),
   is (.bool (insideB b cal x y z)),
   is (.bool (insideB b cal x y z))])
   ⟨is_k, is_k, is_k, is_k, is_k, trivial⟩
   ⟨fun f s W i j l m n a => opv rfl rfl (by simp [go_sem, a.e 3 k16_3, Joins.cell_of_block (blk_below b16_0 i) 0, Joins.cell_of_block (blk_below b16_0 i) 1, Joins.cell_of_block (blk_below b16_0 i) 2, Joins.cell_of_block (blk_below b16_0 i) 3, Joins.cell_of_block (blk_below b16_0 i) 4, Joins.cell_of_block (blk_below b16_0 i) 5, Joins.cell_of_block (blk_below b16_0 i) 6]) rfl,
  fun f s W i j l m n a => opv rfl rfl (by simp [go_sem, a.e 15 k16_15]) rfl,
  fun f s W i j l m n a => opv rfl rfl (by simp [go_sem, a.e 2 k16_2]) rfl,
  fun f s W i j l m n a => by have p := below_trans fB16 i; exact opc rfl rfl (by simp [go_sem, a.e 88 (j 0 rfl), a.e 89 (j 1 rfl), a.e 90 (j 2 rfl)]) (inside_any a1 a2 a3 c1 c2 c3 b cal a4 c4 x y z W (h1.below p (Nat.le_refl _)) (h2.below p (Nat.le_refl _)) (h3.below p (Nat.le_refl _)) (h4.below p (Nat.le_refl _)) gx gy gz (by omega) gp0 gp1 gp2 gp3 gh hl1),
  fun f s W i j l m n a => opv rfl rfl (by simp [go_sem, a.e 91 (j 3 rfl)]) rfl, trivial⟩ ?_
  intro f17 s17 W17 hB17 g17 hg17
  have fB17 := below_trans fB16 hB17.below
  have z17 := hB17.below.size
  have b17_0 := blk_below b16_0 hB17.below
  have b17_1 := blk_below b16_1 hB17.below
  have b17_2 := blk_below b16_2 hB17.below
  have q502' := (q494'.below hB17.below (Nat.le_refl _))
  have q503' := (Nat.lt_of_lt_of_le q495' (Below.size hB17.below))
  have q504' := (q496'.below hB17.below (Nat.le_refl _))
  have q505' := (Nat.lt_of_lt_of_le q497' (Below.size hB17.below))
  have q506' := (q498'.below hB17.below (Nat.le_refl _))
  have q507' := (Nat.lt_of_lt_of_le q499' (Below.size hB17.below))
  have q508' := q500'.below hB17.below (Nat.le_refl _)
  have q509' := (Nat.lt_of_lt_of_le q501' (Below.size hB17.below))
  refine hK30 _ _ ?_
  have k17_2 := kt hg17 2 k16_2
  have k17_3 := kt hg17 3 k16_3
  have k17_4 := kt hg17 4 k16_4
  have k17_6 := kt hg17 6 k16_6
  have k17_9 := kt hg17 9 k16_9
  have k17_10 := kt hg17 10 k16_10
  have k17_11 := kt hg17 11 k16_11
  have k17_15 := kt hg17 15 k16_15
  have k17_13 := kt hg17 13 k16_13
  have k17_14 := kt hg17 14 k16_14
  have k17_16 := kt hg17 16 (hB17.is 4)
  refine region_dk 10 [(92, 0), (93, 1), (94, 2), (95, 3), (96, 4), (97, 5), (98, 6), (99, 7), (13, 8), (14, 9)] [[], [0], [0, 1], [0, 1, 2], [], [0, 1, 4], [0, 1, 4, 5], [0, 1, 4, 5, 6], [0, 1, 2, 3, 4, 5], [0, 1, 2, 3, 4, 5, 6, 7, 8]] (rel [is (.bool (allF b x y z lo cal)),
   is (.bool (allF b x y z lo cal)),
   gd (allF b x y z lo cal) true (is (.bool (insideB b cal x y z))),
   is (.bool ((allF b x y z lo cal) && (insideB b cal x y z))),
   is (.bool (someF b x y z lo cal)),
   is (.bool (someF b x y z lo cal)),
   gd (someF b x y z lo cal) false (is (.bool (insideB b cal x y z))),
   is (.bool ((someF b x y z lo cal) || (insideB b cal x y z))),
   is (.bool ((allF b x y z lo cal) && (insideB b cal x y z))),
   is (.bool ((someF b x y z lo cal) || (insideB b cal x y z)))])
   ⟨is_k, is_k, gd_k (is_k), is_k, is_k, is_k, gd_k (is_k), is_k, is_k, is_k, trivial⟩
   ⟨fun f s W i j l m n a => opv rfl rfl (by simp [go_sem, a.e 13 ((m 8 13 rfl rfl).trans k17_13)]) rfl,
  fun f s W i j l m n a => opv rfl rfl (by simp [go_sem, a.e 92 (j 0 rfl)]) rfl,
  fun f s W i j l m n a => gdo rfl rfl (a.says (d := 93) rfl rfl (j 1 rfl)) fun hgd0 => gv (by simp [go_sem, a.e 16 k17_16]) rfl,
  fun f s W i j l m n a => opk (c := allF b x y z lo cal) rfl rfl (fun hpk => by simp [go_sem, hpk, a.e 93 (j 1 rfl)]) (fun hpk => by simp [go_sem, hpk, a.e 93 (j 1 rfl), a.e 94 ((j 2 rfl).1 hpk)]),
  fun f s W i j l m n a => opv rfl rfl (by simp [go_sem, a.e 14 ((m 9 14 rfl rfl).trans k17_14)]) rfl,
  fun f s W i j l m n a => opv rfl rfl (by simp [go_sem, a.e 96 (j 4 rfl)]) rfl,
  fun f s W i j l m n a => gdo rfl rfl (a.says (d := 97) rfl rfl (j 5 rfl)) fun hgd0 => gv (by simp [go_sem, a.e 16 k17_16]) rfl,
  fun f s W i j l m n a => opk (c := someF b x y z lo cal) rfl rfl (fun hpk => by simp [go_sem, hpk, a.e 97 (j 5 rfl), a.e 98 ((j 6 rfl).1 hpk)]) (fun hpk => by simp [go_sem, hpk, a.e 97 (j 5 rfl)]),
  fun f s W i j l m n a => opv rfl rfl (by simp [go_sem, a.e 95 (j 3 rfl)]) rfl,
  fun f s W i j l m n a => opv rfl rfl (by simp [go_sem, a.e 99 (j 7 rfl)]) rfl, trivial⟩ ?_
  intro f18 s18 W18 hB18 g18 hg18
  have fB18 := below_trans fB17 hB18.below
  have z18 := hB18.below.size
  have b18_0 := blk_below b17_0 hB18.below
  have b18_1 := blk_below b17_1 hB18.below
  have b18_2 := blk_below b17_2 hB18.below
  have q510' := (q502'.below hB18.below (Nat.le_refl _))
  have q511' := (Nat.lt_of_lt_of_le q503' (Below.size hB18.below))
  have q512' := (q504'.below hB18.below (Nat.le_refl _))
  have q513' := (Nat.lt_of_lt_of_le q505' (Below.size hB18.below))
  have q514' := (q506'.below hB18.below (Nat.le_refl _))
  have q515' := (Nat.lt_of_lt_of_le q507' (Below.size hB18.below))
  have q516' := q508'.below hB18.below (Nat.le_refl _)
  have q517' := (Nat.lt_of_lt_of_le q509' (Below.size hB18.below))
  refine wpOps_end ?_
  have k18_2 := kt hg18 2 k17_2
  have k18_3 := kt hg18 3 k17_3
  have k18_4 := kt hg18 4 k17_4
  have k18_6 := kt hg18 6 k17_6
  have k18_9 := kt hg18 9 k17_9
  have k18_10 := kt hg18 10 k17_10
  have k18_11 := kt hg18 11 k17_11
  have k18_15 := kt hg18 15 k17_15
  have k18_13 := kt hg18 13 (hB18.is 8)
  have k18_14 := kt hg18 14 (hB18.is 9)
  refine inBlock_normal ?_
  refine hK29 _ _ ?_
  refine region_dk 3 [(86, 0), (87, 1), (15, 2)] [[], [0], [0, 1]] (rel [is (.int .i64 cal),
   is (.int .i64 (cal + 1)),
   is (.int .i64 (cal + 1))])
   ⟨is_k, is_k, is_k, trivial⟩
   ⟨fun f s W i j l m n a => opv rfl rfl (by simp [go_sem, a.e 15 ((m 2 15 rfl rfl).trans k18_15)]) rfl,
  fun f s W i j l m n a => opv rfl rfl (by simp [go_sem, a.e 86 (j 0 rfl), IntWalk.i64_in (cal + 1) (by omega)]) rfl,
  fun f s W i j l m n a => opv rfl rfl (by simp [go_sem, a.e 87 (j 1 rfl)]) rfl, trivial⟩ ?_
  intro f19 s19 W19 hB19 g19 hg19
  have fB19 := below_trans fB18 hB19.below
  have z19 := hB19.below.size
  have b19_0 := blk_below b18_0 hB19.below
  have b19_1 := blk_below b18_1 hB19.below
  have b19_2 := blk_below b18_2 hB19.below
  have q518' := (q510'.below hB19.below (Nat.le_refl _))
  have q519' := (Nat.lt_of_lt_of_le q511' (Below.size hB19.below))
  have q520' := (q512'.below hB19.below (Nat.le_refl _))
  have q521' := (Nat.lt_of_lt_of_le q513' (Below.size hB19.below))
  have q522' := (q514'.below hB19.below (Nat.le_refl _))
  have q523' := (Nat.lt_of_lt_of_le q515' (Below.size hB19.below))
  have q524' := q516'.below hB19.below (Nat.le_refl _)
  have q525' := (Nat.lt_of_lt_of_le q517' (Below.size hB19.below))
  refine wpOps_end ?_
  have k19_2 := kt hg19 2 k18_2
  have k19_3 := kt hg19 3 k18_3
  have k19_4 := kt hg19 4 k18_4
  have k19_6 := kt hg19 6 k18_6
  have k19_9 := kt hg19 9 k18_9
  have k19_10 := kt hg19 10 k18_10
  have k19_11 := kt hg19 11 k18_11
  have k19_13 := kt hg19 13 k18_13
  have k19_14 := kt hg19 14 k18_14
  have k19_15 := kt hg19 15 (hB19.is 2)
  refine then_normal ?_
  exact ⟨_, by omega, g19, rfl, cal + 1, rfl, k19_2, k19_3, k19_4, k19_6, k19_9, k19_10, k19_11, k19_15.trans (by go_num), k19_13.trans (by rw [allF_step lp0]), k19_14.trans (by rw [someF_step lp0]), fB19, (by omega), b19_0, b19_1, b19_2, q518', q519', q520', q521', q522', q523', q524', q525', (by omega), (by omega)⟩
 ·
  have hc28' := hc28; try simp only [decide_eq_true_eq, decide_eq_false_iff_not, Bool.and_eq_true, Bool.or_eq_true, Bool.and_eq_false_iff, Bool.or_eq_false_iff, beq_iff_eq, bne_iff_ne, Bool.not_eq_true', Bool.not_eq_false', ne_eq, bne_eq_false_iff_eq, beq_eq_false_iff_ne] at hc28'
  have hA := allF_end (b := b) (x := x) (y := y) (z := z) hs2 (by omega : cal = hi + 1)
  have hS := someF_end (b := b) (x := x) (y := y) (z := z) hs2 (by omega : cal = hi + 1)
  refine wp_exit ?_
  refine then_exit ?_
  refine then_exit ?_
  refine inBlock_at ?_
  refine hK24 _ _ ?_
  refine wp_seq_k fun K31 hK31 => ?_
  refine region_dk 16 [(100, 0), (101, 1), (102, 2), (103, 3), (104, 4), (105, 5), (106, 6), (107, 7), (108, 8), (109, 9), (110, 10), (111, 11), (112, 12), (113, 13), (114, 14), (6, 15)] [[], [0], [0, 1], [0, 1, 2], [0, 1, 2], [0, 1, 2, 3, 4], [0, 1, 2, 3, 4, 5], [0, 1, 2, 3, 4, 5, 6], [0, 1, 2, 3, 4, 5, 6, 7], [0, 1, 2, 3, 4, 5, 6, 7], [0, 1, 2, 3, 4, 5, 6, 7, 8, 9], [0, 1, 2, 3, 4, 5, 6, 7, 8, 9, 10], [0, 1, 2, 3, 4, 5, 6, 7, 8, 9, 10, 11], [0, 1, 2, 3, 4, 5, 6, 7, 8, 9, 10, 11, 12], [0, 1, 2, 3, 4, 5, 6, 7, 8, 9, 10, 11, 12, 13], [0, 1, 2, 3, 4, 5, 6, 7, 8, 9, 10, 11, 12, 13, 14]] (rel [is (.int .i64 0),
   is (.bool true),
   is (.bool true),
   gd (true) true (is (.bool (insideB b hi x y z))),
   gd (true) true (is (.bool (allF b x y z lo cal))),
   gd (true) true (is (.bool true)),
   is (.bool true),
   is (.bool true),
   gd (true) true (is (.bool (insideB b lo x y z))),
   gd (true) true (is (.bool (someF b x y z lo cal))),
   gd (true) true (is (.bool true)),
   is (.bool true),
   is (.bool true),
   gd (true) true (is (.bool true)),
   is (.bool true),
   is (.bool true)])
   ⟨is_k, is_k, is_k, gd_k (is_k), gd_k (is_k), gd_k (is_k), is_k, is_k, gd_k (is_k), gd_k (is_k), gd_k (is_k), is_k, is_k, gd_k (is_k), is_k, is_k, trivial⟩
   ⟨fun f s W i j l m n a => opv rfl rfl (by simp [go_sem, a.e 11 k16_11]) rfl,
  fun f s W i j l m n a => opv rfl rfl (by simp [go_sem, a.e 100 (j 0 rfl)]) rfl,
  fun f s W i j l m n a => opv rfl rfl (by simp [go_sem, a.e 101 (j 1 rfl)]) rfl,
  fun f s W i j l m n a => gdo rfl rfl (a.says (d := 102) rfl rfl (j 2 rfl)) fun hgd0 => gv (by simp [go_sem, a.e 9 k16_9]) rfl,
  fun f s W i j l m n a => gdo rfl rfl (a.says (d := 102) rfl rfl (j 2 rfl)) fun hgd0 => gv (by simp [go_sem, a.e 13 k16_13]) rfl,
  fun f s W i j l m n a => gdo rfl rfl (a.says (d := 102) rfl rfl (j 2 rfl)) fun hgd0 => gv (by simp [go_sem, a.e 103 ((j 3 rfl).1 hgd0), a.e 104 ((j 4 rfl).1 hgd0), hA]) rfl,
  fun f s W i j l m n a => opk (c := true) rfl rfl (fun h => absurd h (by decide)) (fun _ => by simp [go_sem, a.e 102 (j 2 rfl), a.e 105 ((j 5 rfl).1 rfl)]),
  fun f s W i j l m n a => opv rfl rfl (by simp [go_sem, a.e 106 (j 6 rfl)]) rfl,
  fun f s W i j l m n a => gdo rfl rfl (a.says (d := 107) rfl rfl (j 7 rfl)) fun hgd0 => gv (by simp [go_sem, a.e 10 k16_10]) rfl,
  fun f s W i j l m n a => gdo rfl rfl (a.says (d := 107) rfl rfl (j 7 rfl)) fun hgd0 => gv (by simp [go_sem, a.e 14 k16_14]) rfl,
  fun f s W i j l m n a => gdo rfl rfl (a.says (d := 107) rfl rfl (j 7 rfl)) fun hgd0 => gv (by simp [go_sem, a.e 108 ((j 8 rfl).1 hgd0), a.e 109 ((j 9 rfl).1 hgd0), hS]) rfl,
  fun f s W i j l m n a => opk (c := true) rfl rfl (fun h => absurd h (by decide)) (fun _ => by simp [go_sem, a.e 107 (j 7 rfl), a.e 110 ((j 10 rfl).1 rfl)]),
  fun f s W i j l m n a => opv rfl rfl (by simp [go_sem, a.e 111 (j 11 rfl)]) rfl,
  fun f s W i j l m n a => gdo rfl rfl (a.says (d := 112) rfl rfl (j 12 rfl)) fun hgd0 => gc (by simp [go_sem]) (known_any W),
  fun f s W i j l m n a => opk (c := true) rfl rfl (fun h => absurd h (by decide)) (fun _ => by simp [go_sem, a.e 112 (j 12 rfl), a.e 113 ((j 13 rfl).1 rfl)]),
  fun f s W i j l m n a => opv rfl rfl (by simp [go_sem, a.e 114 (j 14 rfl)]) rfl, trivial⟩ ?_
  intro f20 s20 W20 hB20 g20 hg20
  have fB20 := below_trans fB16 hB20.below
  have z20 := hB20.below.size
  have b20_0 := blk_below b16_0 hB20.below
  have b20_1 := blk_below b16_1 hB20.below
  have b20_2 := blk_below b16_2 hB20.below
  have q526' := (q494'.below hB20.below (Nat.le_refl _))
  have q527' := (Nat.lt_of_lt_of_le q495' (Below.size hB20.below))
  have q528' := (q496'.below hB20.below (Nat.le_refl _))
  have q529' := (Nat.lt_of_lt_of_le q497' (Below.size hB20.below))
  have q530' := (q498'.below hB20.below (Nat.le_refl _))
  have q531' := (Nat.lt_of_lt_of_le q499' (Below.size hB20.below))
  have q532' := q500'.below hB20.below (Nat.le_refl _)
  have q533' := (Nat.lt_of_lt_of_le q501' (Below.size hB20.below))
  refine hK31 _ _ ?_
  have k20_6 := kt hg20 6 (hB20.is 15)
  refine wp_ret ?_
  refine leave_one (N := 115) (v := .bool true) (.inr rfl) Try.results5 rfl k20_6 ?_
  exact ⟨rfl, fB20⟩
theorem holds_law (a1 a2 a3 : Option Addr) (c1 c2 c3 : Nat) (b : Bl) (lo hi : Int) (a4 : Option Addr) (c4 : Nat) (thing : List Int) (w : World) (h1 : Ii w a1 b.panels.length c1 b.panels) (h2 : Ii w a2 b.top.length c2 b.top) (h3 : Ii w a3 b.bottom.length c3 b.bottom) (h4 : Ii w a4 thing.length c4 thing) : Calls Try.prog 5 #[.agg #[.int .i64 b.tab, .slice (a1) (b.panels.length) (c1), .int .i64 b.height, .slice (a2) (b.top.length) (c2), .slice (a3) (b.bottom.length) (c3), .int .i64 b.slot, .bool b.isOpen], .agg #[.int .i64 lo, .int .i64 hi], .slice (a4) (thing.length) (c4)] w (fun e w' => e = .returned (.bool true) ∧ Below w.heap.size w w') := by
  cases hl : largeB b with
  | true => exact holds_large a1 a2 a3 c1 c2 c3 b lo hi a4 c4 thing w h1 h2 h3 h4 hl
  | false =>
    cases ht : decide (10 < (thing.length : Int)) with
    | true => exact holds_long a1 a2 a3 c1 c2 c3 b lo hi a4 c4 thing w h1 h2 h3 h4 hl ht
    | false =>
      by_cases hck : checkErr b = 0
      · cases hsp : isSpan (lo, hi) 1 10000 with
        | false => exact holds_bad2 a1 a2 a3 c1 c2 c3 b lo hi a4 c4 thing w h1 h2 h3 h4 hl ht hck hsp
        | true =>
          by_cases h3n : thing.length = 3
          · cases hlo : areLong 0 thing with
            | false => exact holds_bad4 a1 a2 a3 c1 c2 c3 b lo hi a4 c4 thing w h1 h2 h3 h4 hl ht hck hsp h3n hlo
            | true =>
              match thing, h3n with
              | [x, y, z], _ => exact holds_good a1 a2 a3 c1 c2 c3 b lo hi a4 c4 x y z w h1 h2 h3 h4 hl hck hsp hlo
          · exact holds_bad3 a1 a2 a3 c1 c2 c3 b lo hi a4 c4 thing w h1 h2 h3 h4 hl ht hck hsp h3n
      · exact holds_bad1 a1 a2 a3 c1 c2 c3 b lo hi a4 c4 thing w h1 h2 h3 h4 hl ht _ rfl (bne_iff_ne.2 hck)
end Go.Proofs.Ythnediamopehfaa
