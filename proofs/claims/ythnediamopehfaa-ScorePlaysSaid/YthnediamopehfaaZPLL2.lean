/- Part of the proof: what the claim leans on. -/
import Derived.Test.YthnediamopehfaaZPLS1
set_option linter.unusedSimpArgs false
set_option linter.unusedVariables false
namespace Go.Proofs.Ythnediamopehfaa
open Go.RowKit
set_option maxRecDepth 100000 in
set_option maxHeartbeats 400000 in
theorem plays_large1 (a1 a2 a3 : Option Addr) (c1 c2 c3 : Nat) (b : Bl) (x1 x2 x3 : Option Addr) (y1 y2 y3 : Nat) (d : Bl) (lo1 hi1 lo2 hi2 : Int) (w : World) (h1 : Ii w a1 b.panels.length c1 b.panels) (h2 : Ii w a2 b.top.length c2 b.top) (h3 : Ii w a3 b.bottom.length c3 b.bottom) (m1 : Ii w x1 d.panels.length y1 d.panels) (m2 : Ii w x2 d.top.length y2 d.top) (m3 : Ii w x3 d.bottom.length y3 d.bottom) (hlb : largeB b = true) :
  Calls Try.prog 4 #[.agg #[.int .i64 b.tab, .slice (a1) (b.panels.length) (c1), .int .i64 b.height, .slice (a2) (b.top.length) (c2), .slice (a3) (b.bottom.length) (c3), .int .i64 b.slot, .bool b.isOpen], .agg #[.int .i64 d.tab, .slice (x1) (d.panels.length) (y1), .int .i64 d.height, .slice (x2) (d.top.length) (y2), .slice (x3) (d.bottom.length) (y3), .int .i64 d.slot, .bool d.isOpen], .agg #[.int .i64 lo1, .int .i64 hi1, .int .i64 lo2, .int .i64 hi2]] w (fun e w' => e = .returned (.bool true) ∧ Below w.heap.size w w') := by
 have hm1 := h1.len_le
 have hm2 := h2.len_le
 have hm3 := h3.len_le
 have hm4 := m1.len_le
 have hm5 := m2.len_le
 have hm6 := m3.len_le
 refine calls_fr Try.func4 Try.ntmps4 rfl rfl fun g hg => ?_
 have k0 : g 0 = .agg #[.int .i64 b.tab, .slice (a1) (b.panels.length) (c1), .int .i64 b.height, .slice (a2) (b.top.length) (c2), .slice (a3) (b.bottom.length) (c3), .int .i64 b.slot, .bool b.isOpen] := hg 0
 have k1 : g 1 = .agg #[.int .i64 d.tab, .slice (x1) (d.panels.length) (y1), .int .i64 d.height, .slice (x2) (d.top.length) (y2), .slice (x3) (d.bottom.length) (y3), .int .i64 d.slot, .bool d.isOpen] := hg 1
 have k2 : g 2 = .agg #[.int .i64 lo1, .int .i64 hi1, .int .i64 lo2, .int .i64 hi2] := hg 2
 clear hg
 have fB0 : Below w.heap.size w w := Below.refl _ _
 refine wp_seq_k fun K1 hK1 => ?_
 refine region_dk 4 [(3, 0), (4, 1), (5, 2), (6, 3)] [[], [], [], []] (rel [bx 0 #[.int .i64 b.tab, .slice (a1) (b.panels.length) (c1), .int .i64 b.height, .slice (a2) (b.top.length) (c2), .slice (a3) (b.bottom.length) (c3), .int .i64 b.slot, .bool b.isOpen] 24,
   bx 1 #[.int .i64 d.tab, .slice (x1) (d.panels.length) (y1), .int .i64 d.height, .slice (x2) (d.top.length) (y2), .slice (x3) (d.bottom.length) (y3), .int .i64 d.slot, .bool d.isOpen] 24,
   bx 2 #[.int .i64 lo1, .int .i64 hi1, .int .i64 lo2, .int .i64 hi2] 38,
   is (.bool false)])
  ⟨bx_k, bx_k, bx_k, is_k, trivial⟩
  ⟨fun f s W i j k l m a => opb rfl rfl (by simp [go_sem, a.e 0 k0]),
  fun f s W i j k l m a => opb rfl rfl (by simp [go_sem, a.e 1 k1]),
  fun f s W i j k l m a => opb rfl rfl (by simp [go_sem, a.e 2 k2]),
  fun f s W i j k l m a => opv rfl rfl (by simp [go_sem]) rfl, trivial⟩ ?_
 intro f1 s1 W1 hB1 g1 hg1
 have fB1 := below_trans fB0 hB1.below
 have z1 := hB1.below.size
 obtain ⟨r1_0, br1_0⟩ := hB1.is 0
 have lr1_0 := hB1.lr 0 br1_0
 obtain ⟨r1_1, br1_1⟩ := hB1.is 1
 have lr1_1 := hB1.lr 1 br1_1
 obtain ⟨r1_2, br1_2⟩ := hB1.is 2
 have lr1_2 := hB1.lr 2 br1_2
 have ne1_0_1 := hB1.nb 0 1
 have ne1_0_2 := hB1.nb 0 2
 have ne1_1_2 := hB1.nb 1 2
 refine hK1 _ _ ?_
 have k1_3 := kt hg1 3 r1_0
 have k1_4 := kt hg1 4 r1_1
 have k1_5 := kt hg1 5 r1_2
 have k1_6 := kt hg1 6 (hB1.is 3)
 refine wp_seq_k fun K2 hK2 => ?_
 refine wp_seq_k fun K3 hK3 => ?_
 refine region_dk 6 [(19, 0), (20, 1), (21, 2), (22, 3), (23, 4), (24, 5)] [[], [0], [0, 1], [0, 1, 2], [0, 1, 2, 3], [0, 1, 2, 3, 4]] (rel [is (.agg #[.int .i64 b.tab, .slice (a1) (b.panels.length) (c1), .int .i64 b.height, .slice (a2) (b.top.length) (c2), .slice (a3) (b.bottom.length) (c3), .int .i64 b.slot, .bool b.isOpen]),
   is (.bool true),
   is (.bool true),
   gd (true) false (fun _ _ _ => True),
   gd (true) false (fun _ _ _ => True),
   is (.bool true)])
  ⟨is_k, is_k, is_k, gdt_k, gdt_k, is_k, trivial⟩
  ⟨fun f s W i j k l m a => opv rfl rfl (by simp [go_sem, a.e 3 k1_3, Joins.cell_of_block (blk_below br1_0 i) 0, Joins.cell_of_block (blk_below br1_0 i) 1, Joins.cell_of_block (blk_below br1_0 i) 2, Joins.cell_of_block (blk_below br1_0 i) 3, Joins.cell_of_block (blk_below br1_0 i) 4, Joins.cell_of_block (blk_below br1_0 i) 5, Joins.cell_of_block (blk_below br1_0 i) 6]) rfl,
  fun f s W i j k l m a => by have n := below_trans fB1 i; exact opDo_call rfl rfl (by simp [go_sem, a.e 19 (j 0 rfl)]) (large_any a1 a2 a3 c1 c2 c3 b W (h1.below n (Nat.le_refl _)) (h2.below n (Nat.le_refl _)) (h3.below n (Nat.le_refl _))) ((fun e W' h => by have h1 := h.1; rw [hlb] at h1; exact ⟨_, h1, h.2, rfl⟩)),
  fun f s W i j k l m a => opv rfl rfl (by simp [go_sem, a.e 20 (j 1 rfl)]) rfl,
  fun f s W i j k l m a => gno (a.says (d := 21) rfl rfl (j 2 rfl)),
  fun f s W i j k l m a => gno (a.says (d := 21) rfl rfl (j 2 rfl)),
  fun f s W i j k l m a => opk (c := true) rfl rfl (fun h => absurd h (by decide)) (fun _ => by simp [go_sem, a.e 21 (j 2 rfl)]), trivial⟩ ?_
 intro f2 s2 W2 hB2 g2 hg2
 have fB2 := below_trans fB1 hB2.below
 have z2 := hB2.below.size
 have b2_0 := blk_below br1_0 hB2.below
 have b2_1 := blk_below br1_1 hB2.below
 have b2_2 := blk_below br1_2 hB2.below
 refine hK3 _ _ ?_
 have k2_3 := kt hg2 3 k1_3
 have k2_4 := kt hg2 4 k1_4
 have k2_5 := kt hg2 5 k1_5
 have k2_6 := kt hg2 6 k1_6
 have k2_24 := kt hg2 24 (hB2.is 5)
 refine wp_cond_true ((fr_eval rfl).trans k2_24) ?_
 refine wp_seq_k fun K5 hK5 => ?_
 refine region_dk 2 [(25, 0), (6, 1)] [[], [0]] (rel [is (.bool true),
   is (.bool true)])
  ⟨is_k, is_k, trivial⟩
  ⟨fun f s W i j k l m a => opc rfl rfl (by simp [go_sem]) (known_any W),
  fun f s W i j k l m a => opv rfl rfl (by simp [go_sem, a.e 25 (j 0 rfl)]) rfl, trivial⟩ ?_
 intro f3 s3 W3 hB3 g3 hg3
 have fB3 := below_trans fB2 hB3.below
 have z3 := hB3.below.size
 have b3_0 := blk_below b2_0 hB3.below
 have b3_1 := blk_below b2_1 hB3.below
 have b3_2 := blk_below b2_2 hB3.below
 refine hK5 _ _ ?_
 have k3_3 := kt hg3 3 k2_3
 have k3_4 := kt hg3 4 k2_4
 have k3_5 := kt hg3 5 k2_5
 have k3_6 := kt hg3 6 (hB3.is 1)
 refine wp_ret ?_
 refine then_ret ?_
 refine leave_one (N := 143) (v := .bool true) (.inr rfl) Try.results4 rfl k3_6 ?_
 exact ⟨rfl, fB3⟩
set_option maxRecDepth 100000 in
set_option maxHeartbeats 400000 in
theorem plays_large2 (a1 a2 a3 : Option Addr) (c1 c2 c3 : Nat) (b : Bl) (x1 x2 x3 : Option Addr) (y1 y2 y3 : Nat) (d : Bl) (lo1 hi1 lo2 hi2 : Int) (w : World) (h1 : Ii w a1 b.panels.length c1 b.panels) (h2 : Ii w a2 b.top.length c2 b.top) (h3 : Ii w a3 b.bottom.length c3 b.bottom) (m1 : Ii w x1 d.panels.length y1 d.panels) (m2 : Ii w x2 d.top.length y2 d.top) (m3 : Ii w x3 d.bottom.length y3 d.bottom) (hlb : largeB b = false) (hld : largeB d = true) :
  Calls Try.prog 4 #[.agg #[.int .i64 b.tab, .slice (a1) (b.panels.length) (c1), .int .i64 b.height, .slice (a2) (b.top.length) (c2), .slice (a3) (b.bottom.length) (c3), .int .i64 b.slot, .bool b.isOpen], .agg #[.int .i64 d.tab, .slice (x1) (d.panels.length) (y1), .int .i64 d.height, .slice (x2) (d.top.length) (y2), .slice (x3) (d.bottom.length) (y3), .int .i64 d.slot, .bool d.isOpen], .agg #[.int .i64 lo1, .int .i64 hi1, .int .i64 lo2, .int .i64 hi2]] w (fun e w' => e = .returned (.bool true) ∧ Below w.heap.size w w') := by
 have hm1 := h1.len_le
 have hm2 := h2.len_le
 have hm3 := h3.len_le
 have hm4 := m1.len_le
 have hm5 := m2.len_le
 have hm6 := m3.len_le
 refine calls_fr Try.func4 Try.ntmps4 rfl rfl fun g hg => ?_
 have k0 : g 0 = .agg #[.int .i64 b.tab, .slice (a1) (b.panels.length) (c1), .int .i64 b.height, .slice (a2) (b.top.length) (c2), .slice (a3) (b.bottom.length) (c3), .int .i64 b.slot, .bool b.isOpen] := hg 0
 have k1 : g 1 = .agg #[.int .i64 d.tab, .slice (x1) (d.panels.length) (y1), .int .i64 d.height, .slice (x2) (d.top.length) (y2), .slice (x3) (d.bottom.length) (y3), .int .i64 d.slot, .bool d.isOpen] := hg 1
 have k2 : g 2 = .agg #[.int .i64 lo1, .int .i64 hi1, .int .i64 lo2, .int .i64 hi2] := hg 2
 clear hg
 have fB0 : Below w.heap.size w w := Below.refl _ _
 refine wp_seq_k fun K1 hK1 => ?_
 refine region_dk 4 [(3, 0), (4, 1), (5, 2), (6, 3)] [[], [], [], []] (rel [bx 0 #[.int .i64 b.tab, .slice (a1) (b.panels.length) (c1), .int .i64 b.height, .slice (a2) (b.top.length) (c2), .slice (a3) (b.bottom.length) (c3), .int .i64 b.slot, .bool b.isOpen] 24,
   bx 1 #[.int .i64 d.tab, .slice (x1) (d.panels.length) (y1), .int .i64 d.height, .slice (x2) (d.top.length) (y2), .slice (x3) (d.bottom.length) (y3), .int .i64 d.slot, .bool d.isOpen] 24,
   bx 2 #[.int .i64 lo1, .int .i64 hi1, .int .i64 lo2, .int .i64 hi2] 38,
   is (.bool false)])
  ⟨bx_k, bx_k, bx_k, is_k, trivial⟩
  ⟨fun f s W i j k l m a => opb rfl rfl (by simp [go_sem, a.e 0 k0]),
  fun f s W i j k l m a => opb rfl rfl (by simp [go_sem, a.e 1 k1]),
  fun f s W i j k l m a => opb rfl rfl (by simp [go_sem, a.e 2 k2]),
  fun f s W i j k l m a => opv rfl rfl (by simp [go_sem]) rfl, trivial⟩ ?_
 intro f1 s1 W1 hB1 g1 hg1
 have fB1 := below_trans fB0 hB1.below
 have z1 := hB1.below.size
 obtain ⟨r1_0, br1_0⟩ := hB1.is 0
 have lr1_0 := hB1.lr 0 br1_0
 obtain ⟨r1_1, br1_1⟩ := hB1.is 1
 have lr1_1 := hB1.lr 1 br1_1
 obtain ⟨r1_2, br1_2⟩ := hB1.is 2
 have lr1_2 := hB1.lr 2 br1_2
 have ne1_0_1 := hB1.nb 0 1
 have ne1_0_2 := hB1.nb 0 2
 have ne1_1_2 := hB1.nb 1 2
 refine hK1 _ _ ?_
 have k1_3 := kt hg1 3 r1_0
 have k1_4 := kt hg1 4 r1_1
 have k1_5 := kt hg1 5 r1_2
 have k1_6 := kt hg1 6 (hB1.is 3)
 refine wp_seq_k fun K2 hK2 => ?_
 refine wp_seq_k fun K3 hK3 => ?_
 refine region_dk 6 [(19, 0), (20, 1), (21, 2), (22, 3), (23, 4), (24, 5)] [[], [0], [0, 1], [0, 1, 2], [0, 1, 2, 3], [0, 1, 2, 3, 4]] (rel [is (.agg #[.int .i64 b.tab, .slice (a1) (b.panels.length) (c1), .int .i64 b.height, .slice (a2) (b.top.length) (c2), .slice (a3) (b.bottom.length) (c3), .int .i64 b.slot, .bool b.isOpen]),
   is (.bool false),
   is (.bool false),
   gd (false) false (is (.agg #[.int .i64 d.tab, .slice (x1) (d.panels.length) (y1), .int .i64 d.height, .slice (x2) (d.top.length) (y2), .slice (x3) (d.bottom.length) (y3), .int .i64 d.slot, .bool d.isOpen])),
   gd (false) false (is (.bool true)),
   is (.bool true)])
  ⟨is_k, is_k, is_k, gd_k (is_k), gd_k (is_k), is_k, trivial⟩
  ⟨fun f s W i j k l m a => opv rfl rfl (by simp [go_sem, a.e 3 k1_3, Joins.cell_of_block (blk_below br1_0 i) 0, Joins.cell_of_block (blk_below br1_0 i) 1, Joins.cell_of_block (blk_below br1_0 i) 2, Joins.cell_of_block (blk_below br1_0 i) 3, Joins.cell_of_block (blk_below br1_0 i) 4, Joins.cell_of_block (blk_below br1_0 i) 5, Joins.cell_of_block (blk_below br1_0 i) 6]) rfl,
  fun f s W i j k l m a => by have n := below_trans fB1 i; exact opDo_call rfl rfl (by simp [go_sem, a.e 19 (j 0 rfl)]) (large_any a1 a2 a3 c1 c2 c3 b W (h1.below n (Nat.le_refl _)) (h2.below n (Nat.le_refl _)) (h3.below n (Nat.le_refl _))) ((fun e W' h => by have h1 := h.1; rw [hlb] at h1; exact ⟨_, h1, h.2, rfl⟩)),
  fun f s W i j k l m a => opv rfl rfl (by simp [go_sem, a.e 20 (j 1 rfl)]) rfl,
  fun f s W i j k l m a => gdo rfl rfl (a.says (d := 21) rfl rfl (j 2 rfl)) fun hgd0 => gv (by simp [go_sem, a.e 4 k1_4, Joins.cell_of_block (blk_below br1_1 i) 0, Joins.cell_of_block (blk_below br1_1 i) 1, Joins.cell_of_block (blk_below br1_1 i) 2, Joins.cell_of_block (blk_below br1_1 i) 3, Joins.cell_of_block (blk_below br1_1 i) 4, Joins.cell_of_block (blk_below br1_1 i) 5, Joins.cell_of_block (blk_below br1_1 i) 6]) rfl,
  fun f s W i j k l m a => gdo rfl rfl (a.says (d := 21) rfl rfl (j 2 rfl)) fun hgd0 => by have n := below_trans fB1 i; exact wp_called (by simp [go_sem, a.e 22 ((j 3 rfl).1 hgd0)]) (large_any x1 x2 x3 y1 y2 y3 d W (m1.below n (Nat.le_refl _)) (m2.below n (Nat.le_refl _)) (m3.below n (Nat.le_refl _))) ((fun e W' h => by have h1 := h.1; rw [hld] at h1; exact ⟨_, h1, h.2, rfl⟩)),
  fun f s W i j k l m a => opk (c := false) rfl rfl (fun _ => by simp [go_sem, a.e 21 (j 2 rfl), a.e 23 ((j 4 rfl).1 rfl)]) (fun h => absurd h (by decide)), trivial⟩ ?_
 intro f2 s2 W2 hB2 g2 hg2
 have fB2 := below_trans fB1 hB2.below
 have z2 := hB2.below.size
 have b2_0 := blk_below br1_0 hB2.below
 have b2_1 := blk_below br1_1 hB2.below
 have b2_2 := blk_below br1_2 hB2.below
 refine hK3 _ _ ?_
 have k2_3 := kt hg2 3 k1_3
 have k2_4 := kt hg2 4 k1_4
 have k2_5 := kt hg2 5 k1_5
 have k2_6 := kt hg2 6 k1_6
 have k2_24 := kt hg2 24 (hB2.is 5)
 refine wp_cond_true ((fr_eval rfl).trans k2_24) ?_
 refine wp_seq_k fun K5 hK5 => ?_
 refine region_dk 2 [(25, 0), (6, 1)] [[], [0]] (rel [is (.bool true),
   is (.bool true)])
  ⟨is_k, is_k, trivial⟩
  ⟨fun f s W i j k l m a => opc rfl rfl (by simp [go_sem]) (known_any W),
  fun f s W i j k l m a => opv rfl rfl (by simp [go_sem, a.e 25 (j 0 rfl)]) rfl, trivial⟩ ?_
 intro f3 s3 W3 hB3 g3 hg3
 have fB3 := below_trans fB2 hB3.below
 have z3 := hB3.below.size
 have b3_0 := blk_below b2_0 hB3.below
 have b3_1 := blk_below b2_1 hB3.below
 have b3_2 := blk_below b2_2 hB3.below
 refine hK5 _ _ ?_
 have k3_3 := kt hg3 3 k2_3
 have k3_4 := kt hg3 4 k2_4
 have k3_5 := kt hg3 5 k2_5
 have k3_6 := kt hg3 6 (hB3.is 1)
 refine wp_ret ?_
 refine then_ret ?_
 refine leave_one (N := 143) (v := .bool true) (.inr rfl) Try.results4 rfl k3_6 ?_
 exact ⟨rfl, fB3⟩
set_option maxRecDepth 100000 in
set_option maxHeartbeats 40000000 in
theorem plays_main (a1 a2 a3 : Option Addr) (c1 c2 c3 : Nat) (b : Bl) (x1 x2 x3 : Option Addr) (y1 y2 y3 : Nat) (d : Bl) (lo1 hi1 lo2 hi2 : Int) (w : World) (h1 : Ii w a1 b.panels.length c1 b.panels) (h2 : Ii w a2 b.top.length c2 b.top) (h3 : Ii w a3 b.bottom.length c3 b.bottom) (m1 : Ii w x1 d.panels.length y1 d.panels) (m2 : Ii w x2 d.top.length y2 d.top) (m3 : Ii w x3 d.bottom.length y3 d.bottom) (xb xd E : Int) (L : List Sp) (sp1 sp2 : Bool) (hlb : largeB b = false) (hld : largeB d = false) (hxb : checkErr b = xb) (hxd : checkErr d = xd) (hsp1 : isSpan (lo1, hi1) 1 10000 = sp1) (hsp2 : isSpan (lo2, hi2) 1 10000 = sp2) (hE : checkedErr [b, d] [(lo1, hi1), (lo2, hi2)] = E) (hL : (if E = 0 then playL b d (lo1, hi1) (lo2, hi2) else []) = L) :
  Calls Try.prog 4 #[.agg #[.int .i64 b.tab, .slice (a1) (b.panels.length) (c1), .int .i64 b.height, .slice (a2) (b.top.length) (c2), .slice (a3) (b.bottom.length) (c3), .int .i64 b.slot, .bool b.isOpen], .agg #[.int .i64 d.tab, .slice (x1) (d.panels.length) (y1), .int .i64 d.height, .slice (x2) (d.top.length) (y2), .slice (x3) (d.bottom.length) (y3), .int .i64 d.slot, .bool d.isOpen], .agg #[.int .i64 lo1, .int .i64 hi1, .int .i64 lo2, .int .i64 hi2]] w (fun e w' => e = .returned (.bool true) ∧ Below w.heap.size w w') := by
 have hm1 := h1.len_le
 have hm2 := h2.len_le
 have hm3 := h3.len_le
 have hm4 := m1.len_le
 have hm5 := m2.len_le
 have hm6 := m3.len_le
 obtain ⟨exb, eyb, ezb⟩ := large_false hlb
 have n1 : b.panels.length ≤ 1000 := by omega
 have n2 : b.top.length ≤ 1000 := by omega
 have n3 : b.bottom.length ≤ 1000 := by omega
 obtain ⟨exd, eyd, ezd⟩ := large_false hld
 have n4 : d.panels.length ≤ 1000 := by omega
 have n5 : d.top.length ≤ 1000 := by omega
 have n6 : d.bottom.length ≤ 1000 := by omega
 refine calls_fr Try.func4 Try.ntmps4 rfl rfl fun g hg => ?_
 have k0 : g 0 = .agg #[.int .i64 b.tab, .slice (a1) (b.panels.length) (c1), .int .i64 b.height, .slice (a2) (b.top.length) (c2), .slice (a3) (b.bottom.length) (c3), .int .i64 b.slot, .bool b.isOpen] := hg 0
 have k1 : g 1 = .agg #[.int .i64 d.tab, .slice (x1) (d.panels.length) (y1), .int .i64 d.height, .slice (x2) (d.top.length) (y2), .slice (x3) (d.bottom.length) (y3), .int .i64 d.slot, .bool d.isOpen] := hg 1
 have k2 : g 2 = .agg #[.int .i64 lo1, .int .i64 hi1, .int .i64 lo2, .int .i64 hi2] := hg 2
 clear hg
 have fB0 : Below w.heap.size w w := Below.refl _ _
 refine wp_seq_k fun K1 hK1 => ?_
 refine region_dk 4 [(3, 0), (4, 1), (5, 2), (6, 3)] [[], [], [], []] (rel [bx 0 #[.int .i64 b.tab, .slice (a1) (b.panels.length) (c1), .int .i64 b.height, .slice (a2) (b.top.length) (c2), .slice (a3) (b.bottom.length) (c3), .int .i64 b.slot, .bool b.isOpen] 24,
   bx 1 #[.int .i64 d.tab, .slice (x1) (d.panels.length) (y1), .int .i64 d.height, .slice (x2) (d.top.length) (y2), .slice (x3) (d.bottom.length) (y3), .int .i64 d.slot, .bool d.isOpen] 24,
   bx 2 #[.int .i64 lo1, .int .i64 hi1, .int .i64 lo2, .int .i64 hi2] 38,
   is (.bool false)])
  ⟨bx_k, bx_k, bx_k, is_k, trivial⟩
  ⟨fun f s W l m p q r j => opb rfl rfl (by simp [go_sem, j.e 0 k0]),
  fun f s W l m p q r j => opb rfl rfl (by simp [go_sem, j.e 1 k1]),
  fun f s W l m p q r j => opb rfl rfl (by simp [go_sem, j.e 2 k2]),
  fun f s W l m p q r j => opv rfl rfl (by simp [go_sem]) rfl, trivial⟩ ?_
 intro f1 s1 W1 hB1 g1 hg1
 have fB1 := below_trans fB0 hB1.below
 have z1 := hB1.below.size
 obtain ⟨r1_0, br1_0⟩ := hB1.is 0
 have lr1_0 := hB1.lr 0 br1_0
 obtain ⟨r1_1, br1_1⟩ := hB1.is 1
 have lr1_1 := hB1.lr 1 br1_1
 obtain ⟨r1_2, br1_2⟩ := hB1.is 2
 have lr1_2 := hB1.lr 2 br1_2
 have ne1_0_1 := hB1.nb 0 1
 have ne1_0_2 := hB1.nb 0 2
 have ne1_1_2 := hB1.nb 1 2
 refine hK1 _ _ ?_
 have k1_3 := kt hg1 3 r1_0
 have k1_4 := kt hg1 4 r1_1
 have k1_5 := kt hg1 5 r1_2
 have k1_6 := kt hg1 6 (hB1.is 3)
 refine wp_seq_k fun K2 hK2 => ?_
 refine wp_seq_k fun K3 hK3 => ?_
 refine region_dk 6 [(19, 0), (20, 1), (21, 2), (22, 3), (23, 4), (24, 5)] [[], [0], [0, 1], [0, 1, 2], [0, 1, 2, 3], [0, 1, 2, 3, 4]] (rel [is (.agg #[.int .i64 b.tab, .slice (a1) (b.panels.length) (c1), .int .i64 b.height, .slice (a2) (b.top.length) (c2), .slice (a3) (b.bottom.length) (c3), .int .i64 b.slot, .bool b.isOpen]),
   is (.bool false),
   is (.bool false),
   gd (false) false (is (.agg #[.int .i64 d.tab, .slice (x1) (d.panels.length) (y1), .int .i64 d.height, .slice (x2) (d.top.length) (y2), .slice (x3) (d.bottom.length) (y3), .int .i64 d.slot, .bool d.isOpen])),
   gd (false) false (is (.bool false)),
   is (.bool false)])
  ⟨is_k, is_k, is_k, gd_k (is_k), gd_k (is_k), is_k, trivial⟩
  ⟨fun f s W l m p q r j => opv rfl rfl (by simp [go_sem, j.e 3 k1_3, Joins.cell_of_block (blk_below br1_0 l) 0, Joins.cell_of_block (blk_below br1_0 l) 1, Joins.cell_of_block (blk_below br1_0 l) 2, Joins.cell_of_block (blk_below br1_0 l) 3, Joins.cell_of_block (blk_below br1_0 l) 4, Joins.cell_of_block (blk_below br1_0 l) 5, Joins.cell_of_block (blk_below br1_0 l) 6]) rfl,
  fun f s W l m p q r j => by have x := below_trans fB1 l; exact opDo_call rfl rfl (by simp [go_sem, j.e 19 (m 0 rfl)]) (large_any a1 a2 a3 c1 c2 c3 b W (h1.below x (Nat.le_refl _)) (h2.below x (Nat.le_refl _)) (h3.below x (Nat.le_refl _))) ((fun e W' h => by have h1 := h.1; rw [hlb] at h1; exact ⟨_, h1, h.2, rfl⟩)),
  fun f s W l m p q r j => opv rfl rfl (by simp [go_sem, j.e 20 (m 1 rfl)]) rfl,
  fun f s W l m p q r j => gdo rfl rfl (j.says (d := 21) rfl rfl (m 2 rfl)) fun hgd0 => gv (by simp [go_sem, j.e 4 k1_4, Joins.cell_of_block (blk_below br1_1 l) 0, Joins.cell_of_block (blk_below br1_1 l) 1, Joins.cell_of_block (blk_below br1_1 l) 2, Joins.cell_of_block (blk_below br1_1 l) 3, Joins.cell_of_block (blk_below br1_1 l) 4, Joins.cell_of_block (blk_below br1_1 l) 5, Joins.cell_of_block (blk_below br1_1 l) 6]) rfl,
  fun f s W l m p q r j => gdo rfl rfl (j.says (d := 21) rfl rfl (m 2 rfl)) fun hgd0 => by have x := below_trans fB1 l; exact wp_called (by simp [go_sem, j.e 22 ((m 3 rfl).1 hgd0)]) (large_any x1 x2 x3 y1 y2 y3 d W (m1.below x (Nat.le_refl _)) (m2.below x (Nat.le_refl _)) (m3.below x (Nat.le_refl _))) ((fun e W' h => by have h1 := h.1; rw [hld] at h1; exact ⟨_, h1, h.2, rfl⟩)),
  fun f s W l m p q r j => opk (c := false) rfl rfl (fun _ => by simp [go_sem, j.e 21 (m 2 rfl), j.e 23 ((m 4 rfl).1 rfl)]) (fun h => absurd h (by decide)), trivial⟩ ?_
 intro f2 s2 W2 hB2 g2 hg2
 have fB2 := below_trans fB1 hB2.below
 have z2 := hB2.below.size
 have b2_0 := blk_below br1_0 hB2.below
 have b2_1 := blk_below br1_1 hB2.below
 have b2_2 := blk_below br1_2 hB2.below
 refine hK3 _ _ ?_
 have k2_3 := kt hg2 3 k1_3
 have k2_4 := kt hg2 4 k1_4
 have k2_5 := kt hg2 5 k1_5
 have k2_6 := kt hg2 6 k1_6
 have k2_24 := kt hg2 24 (hB2.is 5)
 refine wp_cond_false ((fr_eval rfl).trans k2_24) ?_
 refine wp_skip ?_
 refine hK2 _ _ ?_
 refine wp_seq_k fun K5 hK5 => ?_
 refine region_dk 6 [(26, 0), (27, 1), (28, 2), (29, 3), (7, 4), (8, 5)] [[], [0], [], [0, 1, 2], [], [], [0, 1, 2, 3, 4, 5], [0, 1, 2, 3, 4, 5, 6]] (rel [is (.agg #[.int .i64 b.tab, .slice (a1) (b.panels.length) (c1), .int .i64 b.height, .slice (a2) (b.top.length) (c2), .slice (a3) (b.bottom.length) (c3), .int .i64 b.slot, .bool b.isOpen]),
   fun v s W => NwBlk (s 1) (b) v W,
   is (.agg #[.int .i64 d.tab, .slice (x1) (d.panels.length) (y1), .int .i64 d.height, .slice (x2) (d.top.length) (y2), .slice (x3) (d.bottom.length) (y3), .int .i64 d.slot, .bool d.isOpen]),
   fun v s W => NwBlk (s 3) (d) v W,
   bx 4 #[.int .i64 0, .slice (none) (0) (0), .int .i64 0, .slice (none) (0) (0), .slice (none) (0) (0), .int .i64 0, .bool false] 24,
   bx 5 #[.int .i64 0, .slice (none) (0) (0), .int .i64 0, .slice (none) (0) (0), .slice (none) (0) (0), .int .i64 0, .bool false] 24])
  ⟨is_k, ⟨fun v k W W' hb h => h.below hb, fun v s s' W e h => by have h' : NwBlk (s 1) (b) v W := h; show NwBlk (s' 1) (b) v W; rw [← e 1 (by simp)]; exact h'⟩, is_k, ⟨fun v k W W' hb h => h.below hb, fun v s s' W e h => by have h' : NwBlk (s 3) (d) v W := h; show NwBlk (s' 3) (d) v W; rw [← e 3 (by simp)]; exact h'⟩, bx_k, bx_k, trivial⟩
  ⟨fun f s W l m p q r j => opv rfl rfl (by simp [go_sem, j.e 3 k2_3, Joins.cell_of_block (blk_below b2_0 l) 0, Joins.cell_of_block (blk_below b2_0 l) 1, Joins.cell_of_block (blk_below b2_0 l) 2, Joins.cell_of_block (blk_below b2_0 l) 3, Joins.cell_of_block (blk_below b2_0 l) 4, Joins.cell_of_block (blk_below b2_0 l) 5, Joins.cell_of_block (blk_below b2_0 l) 6]) rfl,
  fun f s W l m p q r j => by have x := below_trans fB2 l; exact opDo_call rfl rfl (by simp [go_sem, j.e 26 (m 0 rfl)]) (own_any a1 a2 a3 c1 c2 c3 b W (h1.below x (Nat.le_refl _)) (h2.below x (Nat.le_refl _)) (h3.below x (Nat.le_refl _)) n1 n2 n3) (fun e W' h => by obtain ⟨v, e1, h1, h2⟩ := h; exact ⟨v, e1, h2, (show NwBlk (upd s 1 W.heap.size 1) (b) v W' from by rw [upd_at]; exact h1)⟩),
  fun f s W l m p q r j => opv rfl rfl (by simp [go_sem, j.e 4 k2_4, Joins.cell_of_block (blk_below b2_1 l) 0, Joins.cell_of_block (blk_below b2_1 l) 1, Joins.cell_of_block (blk_below b2_1 l) 2, Joins.cell_of_block (blk_below b2_1 l) 3, Joins.cell_of_block (blk_below b2_1 l) 4, Joins.cell_of_block (blk_below b2_1 l) 5, Joins.cell_of_block (blk_below b2_1 l) 6]) rfl,
  fun f s W l m p q r j => by have x := below_trans fB2 l; exact opDo_call rfl rfl (by simp [go_sem, j.e 28 (m 2 rfl)]) (own_any x1 x2 x3 y1 y2 y3 d W (m1.below x (Nat.le_refl _)) (m2.below x (Nat.le_refl _)) (m3.below x (Nat.le_refl _)) n4 n5 n6) (fun e W' h => by obtain ⟨v, e1, h1, h2⟩ := h; exact ⟨v, e1, h2, (show NwBlk (upd s 3 W.heap.size 3) (d) v W' from by rw [upd_at]; exact h1)⟩),
  fun f s W l m p q r j => opb rfl rfl (by simp [go_sem]),
  fun f s W l m p q r j => opb rfl rfl (by simp [go_sem]), trivial⟩ ?_
 intro f3 s3 W3 hB3 g3 hg3
 have fB3 := below_trans fB2 hB3.below
 have z3 := hB3.below.size
 have b3_0 := blk_below b2_0 hB3.below
 have b3_1 := blk_below b2_1 hB3.below
 have b3_2 := blk_below b2_2 hB3.below
 have la3_1_1 := hB3.from' 1 (by decide)
 obtain ⟨g1', c4', g2', c5', g3', c6', r3_1, ⟨q7', q9', q8'⟩, ⟨q10', q12', q11'⟩, ⟨q13', q15', q14'⟩⟩ := hB3.is 1
 have la3_3_3 := hB3.from' 3 (by decide)
 obtain ⟨g16', c19', g17', c20', g18', c21', r3_3, ⟨q22', q24', q23'⟩, ⟨q25', q27', q26'⟩, ⟨q28', q30', q29'⟩⟩ := hB3.is 3
 obtain ⟨r3_4, br3_4⟩ := hB3.is 4
 have lr3_4 := hB3.lr 4 br3_4
 obtain ⟨r3_5, br3_5⟩ := hB3.is 5
 have lr3_5 := hB3.lr 5 br3_5
 have la3_1 := hB3.from' 1 (by decide)
 have of3_1_4_0 := hB3.off 1 4 (by decide) (by decide) (by decide) q9' (fun W h => (NwBlk.lt h r3_1).1) (fun _ _ _ h => lt_of_blk h.2)
 have of3_1_4_1 := hB3.off 1 4 (by decide) (by decide) (by decide) q12' (fun W h => (NwBlk.lt h r3_1).2.1) (fun _ _ _ h => lt_of_blk h.2)
 have of3_1_4_2 := hB3.off 1 4 (by decide) (by decide) (by decide) q15' (fun W h => (NwBlk.lt h r3_1).2.2) (fun _ _ _ h => lt_of_blk h.2)
 have of3_1_5_0 := hB3.off 1 5 (by decide) (by decide) (by decide) q9' (fun W h => (NwBlk.lt h r3_1).1) (fun _ _ _ h => lt_of_blk h.2)
 have of3_1_5_1 := hB3.off 1 5 (by decide) (by decide) (by decide) q12' (fun W h => (NwBlk.lt h r3_1).2.1) (fun _ _ _ h => lt_of_blk h.2)
 have of3_1_5_2 := hB3.off 1 5 (by decide) (by decide) (by decide) q15' (fun W h => (NwBlk.lt h r3_1).2.2) (fun _ _ _ h => lt_of_blk h.2)
 have la3_3 := hB3.from' 3 (by decide)
 have of3_3_4_0 := hB3.off 3 4 (by decide) (by decide) (by decide) q24' (fun W h => (NwBlk.lt h r3_3).1) (fun _ _ _ h => lt_of_blk h.2)
 have of3_3_4_1 := hB3.off 3 4 (by decide) (by decide) (by decide) q27' (fun W h => (NwBlk.lt h r3_3).2.1) (fun _ _ _ h => lt_of_blk h.2)
 have of3_3_4_2 := hB3.off 3 4 (by decide) (by decide) (by decide) q30' (fun W h => (NwBlk.lt h r3_3).2.2) (fun _ _ _ h => lt_of_blk h.2)
 have of3_3_5_0 := hB3.off 3 5 (by decide) (by decide) (by decide) q24' (fun W h => (NwBlk.lt h r3_3).1) (fun _ _ _ h => lt_of_blk h.2)
 have of3_3_5_1 := hB3.off 3 5 (by decide) (by decide) (by decide) q27' (fun W h => (NwBlk.lt h r3_3).2.1) (fun _ _ _ h => lt_of_blk h.2)
 have of3_3_5_2 := hB3.off 3 5 (by decide) (by decide) (by decide) q30' (fun W h => (NwBlk.lt h r3_3).2.2) (fun _ _ _ h => lt_of_blk h.2)
 have ne3_4_5 := hB3.nb 4 5
 have k3_3 := kt hg3 3 k2_3
 have k3_4 := kt hg3 4 k2_4
 have k3_5 := kt hg3 5 k2_5
 have k3_6 := kt hg3 6 k2_6
 have k3_27 := kt hg3 27 r3_1
 have k3_29 := kt hg3 29 r3_3
 have k3_7 := kt hg3 7 r3_4
 have k3_8 := kt hg3 8 r3_5
 obtain ⟨W4, hW4⟩ : ∃ W', W' = W3.setRow (s3 4) #[.int .i64 b.tab, .slice (some ⟨g1', 0, none⟩) (b.panels.length) (c4'), .int .i64 b.height, .slice (some ⟨g2', 0, none⟩) (b.top.length) (c5'), .slice (some ⟨g3', 0, none⟩) (b.bottom.length) (c6'), .int .i64 b.slot, .bool b.isOpen] := ⟨_, rfl⟩
 refine tail_skip (o := _) rfl ⟨rfl, rfl⟩ (run_seg hW4 (fr_ev k3_7) (fr_ev k3_27) br3_4 rfl rfl rfl rfl) ?_
 obtain ⟨fB4, nb4, ot4, z4⟩ := seg_facts hW4 fB3 br3_4 (by omega)
 clear hW4
 have b4_0 := ot4 _ _ (by omega) b3_0
 have b4_1 := ot4 _ _ (by omega) b3_1
 have b4_2 := ot4 _ _ (by omega) b3_2
 have b4_4 := ot4 _ _ (by omega) br3_5
 have q31' := (q7'.other ot4 q8' (by omega) z4)
 have q32' := Nat.lt_of_lt_of_le q8' z4
 have q33' := (q10'.other ot4 q11' (by omega) z4)
 have q34' := Nat.lt_of_lt_of_le q11' z4
 have q35' := (q13'.other ot4 q14' (by omega) z4)
 have q36' := Nat.lt_of_lt_of_le q14' z4
 have q37' := (q22'.other ot4 q23' (by omega) z4)
 have q38' := Nat.lt_of_lt_of_le q23' z4
 have q39' := (q25'.other ot4 q26' (by omega) z4)
 have q40' := Nat.lt_of_lt_of_le q26' z4
 have q41' := (q28'.other ot4 q29' (by omega) z4)
 have q42' := Nat.lt_of_lt_of_le q29' z4
 obtain ⟨W5, hW5⟩ : ∃ W', W' = W4.setRow (s3 5) #[.int .i64 d.tab, .slice (some ⟨g16', 0, none⟩) (d.panels.length) (c19'), .int .i64 d.height, .slice (some ⟨g17', 0, none⟩) (d.top.length) (c20'), .slice (some ⟨g18', 0, none⟩) (d.bottom.length) (c21'), .int .i64 d.slot, .bool d.isOpen] := ⟨_, rfl⟩
 refine tail_skip (o := _) rfl ⟨rfl, rfl⟩ (run_seg hW5 (fr_ev k3_8) (fr_ev k3_29) b4_4 rfl rfl rfl rfl) ?_
 obtain ⟨fB5, nb5, ot5, z5⟩ := seg_facts hW5 fB4 b4_4 (by omega)
 clear hW5
 have b5_0 := ot5 _ _ (by omega) b4_0
 have b5_1 := ot5 _ _ (by omega) b4_1
 have b5_2 := ot5 _ _ (by omega) b4_2
 have b5_3 := ot5 _ _ (by omega) nb4
 have q43' := (q31'.other ot5 q32' (by omega) z5)
 have q44' := Nat.lt_of_lt_of_le q32' z5
 have q45' := (q33'.other ot5 q34' (by omega) z5)
 have q46' := Nat.lt_of_lt_of_le q34' z5
 have q47' := (q35'.other ot5 q36' (by omega) z5)
 have q48' := Nat.lt_of_lt_of_le q36' z5
 have q49' := (q37'.other ot5 q38' (by omega) z5)
 have q50' := Nat.lt_of_lt_of_le q38' z5
 have q51' := (q39'.other ot5 q40' (by omega) z5)
 have q52' := Nat.lt_of_lt_of_le q40' z5
 have q53' := (q41'.other ot5 q42' (by omega) z5)
 have q54' := Nat.lt_of_lt_of_le q42' z5
 refine wpOps_end ?_
 refine hK5 _ _ ?_
 refine wp_seq_k fun K6 hK6 => ?_
 refine region_dk 12 [(31, 0), (32, 1), (33, 2), (34, 3), (35, 4), (36, 5), (37, 6), (30, 7), (38, 8), (39, 9), (9, 10), (10, 11)] [[], [], [], [2], [], [4], [0, 1, 2, 3, 4, 5], [0, 1, 2, 3, 4, 5, 6], [0, 1, 2, 3, 4, 5, 6, 7], [0, 1, 2, 3, 4, 5, 6, 7], [0, 1, 2, 3, 4, 5, 6, 7, 8], [0, 1, 2, 3, 4, 5, 6, 7, 8, 9, 10]] (rel [is (.agg #[.int .i64 b.tab, .slice (some ⟨g1', 0, none⟩) (b.panels.length) (c4'), .int .i64 b.height, .slice (some ⟨g2', 0, none⟩) (b.top.length) (c5'), .slice (some ⟨g3', 0, none⟩) (b.bottom.length) (c6'), .int .i64 b.slot, .bool b.isOpen]),
   is (.agg #[.int .i64 d.tab, .slice (some ⟨g16', 0, none⟩) (d.panels.length) (c19'), .int .i64 d.height, .slice (some ⟨g17', 0, none⟩) (d.top.length) (c20'), .slice (some ⟨g18', 0, none⟩) (d.bottom.length) (c21'), .int .i64 d.slot, .bool d.isOpen]),
   is (.pointer (some ⟨(s1 2), 0, none⟩)),
   is (.agg #[.int .i64 lo1, .int .i64 hi1]),
   is (.pointer (some ⟨(s1 2), 2, none⟩)),
   is (.agg #[.int .i64 lo2, .int .i64 hi2]),
   ab fun v W => ∃ x0, v = .tuple #[x0, .int .i64 E] ∧ IsPp L x0 W,
   ab fun v W => ∃ x0, v = .tuple #[x0, .int .i64 E] ∧ IsPp L x0 W,
   ab fun v W => IsPp L v W,
   is (.int .i64 E),
   ab fun v W => IsPp L v W,
   is (.int .i64 E)])
  ⟨is_k, is_k, is_k, is_k, is_k, is_k, ab_k fun v W W' hb ⟨x0, e, h0⟩ => ⟨x0, e, h0.below hb⟩, ab_k fun v W W' hb ⟨x0, e, h0⟩ => ⟨x0, e, h0.below hb⟩, ab_k fun v W W' hb h => h.below hb, is_k, ab_k fun v W W' hb h => h.below hb, is_k, trivial⟩
  ⟨fun f s W l m p q r j => opv rfl rfl (by simp [go_sem, j.e 7 k3_7, Joins.cell_of_block (blk_below b5_3 l) 0, Joins.cell_of_block (blk_below b5_3 l) 1, Joins.cell_of_block (blk_below b5_3 l) 2, Joins.cell_of_block (blk_below b5_3 l) 3, Joins.cell_of_block (blk_below b5_3 l) 4, Joins.cell_of_block (blk_below b5_3 l) 5, Joins.cell_of_block (blk_below b5_3 l) 6]) rfl,
  fun f s W l m p q r j => opv rfl rfl (by simp [go_sem, j.e 8 k3_8, Joins.cell_of_block (blk_below nb5 l) 0, Joins.cell_of_block (blk_below nb5 l) 1, Joins.cell_of_block (blk_below nb5 l) 2, Joins.cell_of_block (blk_below nb5 l) 3, Joins.cell_of_block (blk_below nb5 l) 4, Joins.cell_of_block (blk_below nb5 l) 5, Joins.cell_of_block (blk_below nb5 l) 6]) rfl,
  fun f s W l m p q r j => opv rfl rfl (by simp [go_sem, j.e 5 k3_5]) rfl,
  fun f s W l m p q r j => opv rfl rfl (by simp [go_sem, j.e 33 (m 2 rfl), Joins.cell_of_block (blk_below b5_2 l) 0, Joins.cell_of_block (blk_below b5_2 l) 1]) rfl,
  fun f s W l m p q r j => opv rfl rfl (by simp [go_sem, j.e 5 k3_5]) rfl,
  fun f s W l m p q r j => opv rfl rfl (by simp [go_sem, j.e 35 (m 4 rfl), Joins.cell_of_block (blk_below b5_2 l) 2, Joins.cell_of_block (blk_below b5_2 l) 3]) rfl,
  fun f s W l m p q r j => opDo_call (args := #[.agg #[.int .i64 b.tab, .slice (some ⟨g1', 0, none⟩) (b.panels.length) (c4'), .int .i64 b.height, .slice (some ⟨g2', 0, none⟩) (b.top.length) (c5'), .slice (some ⟨g3', 0, none⟩) (b.bottom.length) (c6'), .int .i64 b.slot, .bool b.isOpen], .agg #[.int .i64 d.tab, .slice (some ⟨g16', 0, none⟩) (d.panels.length) (c19'), .int .i64 d.height, .slice (some ⟨g17', 0, none⟩) (d.top.length) (c20'), .slice (some ⟨g18', 0, none⟩) (d.bottom.length) (c21'), .int .i64 d.slot, .bool d.isOpen], .agg #[.int .i64 lo1, .int .i64 hi1], .agg #[.int .i64 lo2, .int .i64 hi2]]) rfl rfl (by simp [go_sem, j.e 31 (m 0 rfl), j.e 32 (m 1 rfl), j.e 34 (m 3 rfl), j.e 36 (m 5 rfl)]) (play_any _ _ b d lo1 hi1 lo2 hi2 W ⟨_, _, _, _, _, _, _, _, _, rfl, ((q43'.below l (Nat.le_refl _))), ((q45'.below l (Nat.le_refl _))), ((q47'.below l (Nat.le_refl _)))⟩ ⟨_, _, _, _, _, _, _, _, _, rfl, ((q49'.below l (Nat.le_refl _))), ((q51'.below l (Nat.le_refl _))), ((q53'.below l (Nat.le_refl _)))⟩) ((fun e W' h => by obtain ⟨a, n, c, e1, h1, h2⟩ := h; rw [hE] at e1; rw [hE, hL] at h1; exact ⟨_, e1, h2, _, rfl, isPp_of h1⟩)),
  fun f s W l m p q r j => opv (v := (f 6)) rfl rfl (by simp [go_sem, (j.at' 37 rfl : r.tmps[37]?.getD undef = f 6)] <;> rfl) (m 6 rfl),
  fun f s W l m p q r j => by obtain ⟨x7_0, d7, p7_0⟩ := (m 7 rfl); exact opv (v := x7_0) rfl rfl (by simp [go_sem, j.e 30 d7]) p7_0,
  fun f s W l m p q r j => by obtain ⟨x7_0, d7, p7_0⟩ := (m 7 rfl); exact opv rfl rfl (by simp [go_sem, j.e 30 d7]) rfl,
  fun f s W l m p q r j => opv (v := (f 8)) rfl rfl (by simp [go_sem, (j.at' 38 rfl : r.tmps[38]?.getD undef = f 8)] <;> rfl) (m 8 rfl),
  fun f s W l m p q r j => opv rfl rfl (by simp [go_sem, j.e 39 (m 9 rfl)]) rfl, trivial⟩ ?_
 intro f6 s6 W6 hB6 g6 hg6
 have fB6 := below_trans fB5 hB6.below
 have z6 := hB6.below.size
 have b6_0 := blk_below b5_0 hB6.below
 have b6_1 := blk_below b5_1 hB6.below
 have b6_2 := blk_below b5_2 hB6.below
 have b6_3 := blk_below b5_3 hB6.below
 have b6_4 := blk_below nb5 hB6.below
 have q58' := (q43'.below hB6.below (Nat.le_refl _))
 have q59' := (Nat.lt_of_lt_of_le q44' (Below.size hB6.below))
 have q60' := (q45'.below hB6.below (Nat.le_refl _))
 have q61' := (Nat.lt_of_lt_of_le q46' (Below.size hB6.below))
 have q62' := (q47'.below hB6.below (Nat.le_refl _))
 have q63' := (Nat.lt_of_lt_of_le q48' (Below.size hB6.below))
 have q64' := (q49'.below hB6.below (Nat.le_refl _))
 have q65' := (Nat.lt_of_lt_of_le q50' (Below.size hB6.below))
 have q66' := (q51'.below hB6.below (Nat.le_refl _))
 have q67' := (Nat.lt_of_lt_of_le q52' (Below.size hB6.below))
 have q68' := (q53'.below hB6.below (Nat.le_refl _))
 have q69' := (Nat.lt_of_lt_of_le q54' (Below.size hB6.below))
 obtain ⟨a70', c71', r6_10, q72'⟩ := hB6.is 10
 refine hK6 _ _ ?_
 have k6_3 := kt hg6 3 k3_3
 have k6_4 := kt hg6 4 k3_4
 have k6_5 := kt hg6 5 k3_5
 have k6_6 := kt hg6 6 k3_6
 have k6_7 := kt hg6 7 k3_7
 have k6_8 := kt hg6 8 k3_8
 have k6_9 := kt hg6 9 r6_10
 have k6_10 := kt hg6 10 (hB6.is 11)
 refine wp_seq_k fun K7 hK7 => ?_
 refine wp_seq_k fun K8 hK8 => ?_
 refine region_dk 10 [(40, 0), (41, 1), (42, 2), (43, 3), (44, 4), (45, 5), (46, 6), (47, 7), (48, 8), (49, 9)] [[], [], [0, 1], [0, 1, 2], [0, 1, 2, 3], [0, 1, 2, 3, 4], [0, 1, 2, 3, 4], [0, 1, 2, 3, 4, 5, 6], [0, 1, 2, 3, 4, 5, 6, 7], [0, 1, 2, 3, 4, 5, 6, 7, 8]] (rel [is (.agg #[.int .i64 b.tab, .slice (some ⟨g1', 0, none⟩) (b.panels.length) (c4'), .int .i64 b.height, .slice (some ⟨g2', 0, none⟩) (b.top.length) (c5'), .slice (some ⟨g3', 0, none⟩) (b.bottom.length) (c6'), .int .i64 b.slot, .bool b.isOpen]),
   is (.agg #[.int .i64 b.tab, .slice (a1) (b.panels.length) (c1), .int .i64 b.height, .slice (a2) (b.top.length) (c2), .slice (a3) (b.bottom.length) (c3), .int .i64 b.slot, .bool b.isOpen]),
   is (.bool true),
   is (.bool false),
   is (.bool false),
   gd (false) false (is (.agg #[.int .i64 d.tab, .slice (some ⟨g16', 0, none⟩) (d.panels.length) (c19'), .int .i64 d.height, .slice (some ⟨g17', 0, none⟩) (d.top.length) (c20'), .slice (some ⟨g18', 0, none⟩) (d.bottom.length) (c21'), .int .i64 d.slot, .bool d.isOpen])),
   gd (false) false (is (.agg #[.int .i64 d.tab, .slice (x1) (d.panels.length) (y1), .int .i64 d.height, .slice (x2) (d.top.length) (y2), .slice (x3) (d.bottom.length) (y3), .int .i64 d.slot, .bool d.isOpen])),
   gd (false) false (is (.bool true)),
   gd (false) false (is (.bool false)),
   is (.bool false)])
  ⟨is_k, is_k, is_k, is_k, is_k, gd_k (is_k), gd_k (is_k), gd_k (is_k), gd_k (is_k), is_k, trivial⟩
  ⟨fun f s W l m p q r j => opv rfl rfl (by simp [go_sem, j.e 7 k6_7, Joins.cell_of_block (blk_below b6_3 l) 0, Joins.cell_of_block (blk_below b6_3 l) 1, Joins.cell_of_block (blk_below b6_3 l) 2, Joins.cell_of_block (blk_below b6_3 l) 3, Joins.cell_of_block (blk_below b6_3 l) 4, Joins.cell_of_block (blk_below b6_3 l) 5, Joins.cell_of_block (blk_below b6_3 l) 6]) rfl,
  fun f s W l m p q r j => opv rfl rfl (by simp [go_sem, j.e 3 k6_3, Joins.cell_of_block (blk_below b6_0 l) 0, Joins.cell_of_block (blk_below b6_0 l) 1, Joins.cell_of_block (blk_below b6_0 l) 2, Joins.cell_of_block (blk_below b6_0 l) 3, Joins.cell_of_block (blk_below b6_0 l) 4, Joins.cell_of_block (blk_below b6_0 l) 5, Joins.cell_of_block (blk_below b6_0 l) 6]) rfl,
  fun f s W l m p q r j => by have x := below_trans fB6 l; exact opDo_call (args := #[.agg #[.int .i64 b.tab, .slice (some ⟨g1', 0, none⟩) (b.panels.length) (c4'), .int .i64 b.height, .slice (some ⟨g2', 0, none⟩) (b.top.length) (c5'), .slice (some ⟨g3', 0, none⟩) (b.bottom.length) (c6'), .int .i64 b.slot, .bool b.isOpen], .agg #[.int .i64 b.tab, .slice (a1) (b.panels.length) (c1), .int .i64 b.height, .slice (a2) (b.top.length) (c2), .slice (a3) (b.bottom.length) (c3), .int .i64 b.slot, .bool b.isOpen]]) rfl rfl (by simp [go_sem, j.e 40 (m 0 rfl), j.e 41 (m 1 rfl)]) (same_blk (b := b) (d := b) ⟨_, _, _, _, _, _, _, _, _, rfl, ((q58'.below l (Nat.le_refl _))), ((q60'.below l (Nat.le_refl _))), ((q62'.below l (Nat.le_refl _)))⟩ ⟨_, _, _, _, _, _, _, _, _, rfl, (h1.below x (Nat.le_refl _)), (h2.below x (Nat.le_refl _)), (h3.below x (Nat.le_refl _))⟩) ((fun e W' h => by have h1 := h.1; rw [sameB_self] at h1; exact ⟨_, h1, h.2, rfl⟩)),
  fun f s W l m p q r j => opv rfl rfl (by simp [go_sem, j.e 42 (m 2 rfl)]) rfl,
  fun f s W l m p q r j => opv rfl rfl (by simp [go_sem, j.e 43 (m 3 rfl)]) rfl,
  fun f s W l m p q r j => gdo rfl rfl (j.says (d := 44) rfl rfl (m 4 rfl)) fun hgd0 => gv (by simp [go_sem, j.e 8 k6_8, Joins.cell_of_block (blk_below b6_4 l) 0, Joins.cell_of_block (blk_below b6_4 l) 1, Joins.cell_of_block (blk_below b6_4 l) 2, Joins.cell_of_block (blk_below b6_4 l) 3, Joins.cell_of_block (blk_below b6_4 l) 4, Joins.cell_of_block (blk_below b6_4 l) 5, Joins.cell_of_block (blk_below b6_4 l) 6]) rfl,
  fun f s W l m p q r j => gdo rfl rfl (j.says (d := 44) rfl rfl (m 4 rfl)) fun hgd0 => gv (by simp [go_sem, j.e 4 k6_4, Joins.cell_of_block (blk_below b6_1 l) 0, Joins.cell_of_block (blk_below b6_1 l) 1, Joins.cell_of_block (blk_below b6_1 l) 2, Joins.cell_of_block (blk_below b6_1 l) 3, Joins.cell_of_block (blk_below b6_1 l) 4, Joins.cell_of_block (blk_below b6_1 l) 5, Joins.cell_of_block (blk_below b6_1 l) 6]) rfl,
  fun f s W l m p q r j => gdo rfl rfl (j.says (d := 44) rfl rfl (m 4 rfl)) fun hgd0 => by have x := below_trans fB6 l; exact wp_called (args := #[.agg #[.int .i64 d.tab, .slice (some ⟨g16', 0, none⟩) (d.panels.length) (c19'), .int .i64 d.height, .slice (some ⟨g17', 0, none⟩) (d.top.length) (c20'), .slice (some ⟨g18', 0, none⟩) (d.bottom.length) (c21'), .int .i64 d.slot, .bool d.isOpen], .agg #[.int .i64 d.tab, .slice (x1) (d.panels.length) (y1), .int .i64 d.height, .slice (x2) (d.top.length) (y2), .slice (x3) (d.bottom.length) (y3), .int .i64 d.slot, .bool d.isOpen]]) (by simp [go_sem, j.e 45 ((m 5 rfl).1 hgd0), j.e 46 ((m 6 rfl).1 hgd0)]) (same_blk (b := d) (d := d) ⟨_, _, _, _, _, _, _, _, _, rfl, ((q64'.below l (Nat.le_refl _))), ((q66'.below l (Nat.le_refl _))), ((q68'.below l (Nat.le_refl _)))⟩ ⟨_, _, _, _, _, _, _, _, _, rfl, (m1.below x (Nat.le_refl _)), (m2.below x (Nat.le_refl _)), (m3.below x (Nat.le_refl _))⟩) ((fun e W' h => by have h1 := h.1; rw [sameB_self] at h1; exact ⟨_, h1, h.2, rfl⟩)),
  fun f s W l m p q r j => gdo rfl rfl (j.says (d := 44) rfl rfl (m 4 rfl)) fun hgd0 => gv (by simp [go_sem, j.e 47 ((m 7 rfl).1 hgd0)]) rfl,
  fun f s W l m p q r j => opk (c := false) rfl rfl (fun _ => by simp [go_sem, j.e 44 (m 4 rfl), j.e 48 ((m 8 rfl).1 rfl)]) (fun h => absurd h (by decide)), trivial⟩ ?_
 intro f7 s7 W7 hB7 g7 hg7
 have fB7 := below_trans fB6 hB7.below
 have z7 := hB7.below.size
 have b7_0 := blk_below b6_0 hB7.below
 have b7_1 := blk_below b6_1 hB7.below
 have b7_2 := blk_below b6_2 hB7.below
 have b7_3 := blk_below b6_3 hB7.below
 have b7_4 := blk_below b6_4 hB7.below
 have q73' := (q58'.below hB7.below (Nat.le_refl _))
 have q74' := (Nat.lt_of_lt_of_le q59' (Below.size hB7.below))
 have q75' := (q60'.below hB7.below (Nat.le_refl _))
 have q76' := (Nat.lt_of_lt_of_le q61' (Below.size hB7.below))
 have q77' := (q62'.below hB7.below (Nat.le_refl _))
 have q78' := (Nat.lt_of_lt_of_le q63' (Below.size hB7.below))
 have q79' := (q64'.below hB7.below (Nat.le_refl _))
 have q80' := (Nat.lt_of_lt_of_le q65' (Below.size hB7.below))
 have q81' := (q66'.below hB7.below (Nat.le_refl _))
 have q82' := (Nat.lt_of_lt_of_le q67' (Below.size hB7.below))
 have q83' := (q68'.below hB7.below (Nat.le_refl _))
 have q84' := (Nat.lt_of_lt_of_le q69' (Below.size hB7.below))
 have q85' := (q72'.below hB7.below (Nat.le_refl _))
 refine hK8 _ _ ?_
 have k7_3 := kt hg7 3 k6_3
 have k7_4 := kt hg7 4 k6_4
 have k7_5 := kt hg7 5 k6_5
 have k7_6 := kt hg7 6 k6_6
 have k7_9 := kt hg7 9 k6_9
 have k7_10 := kt hg7 10 k6_10
 have k7_49 := kt hg7 49 (hB7.is 9)
 refine wp_cond_false ((fr_eval rfl).trans k7_49) ?_
 refine wp_skip ?_
 refine hK7 _ _ ?_
 refine wp_seq_k fun K10 hK10 => ?_
 refine region_dk 3 [(50, 0), (51, 1), (11, 2)] [[], [0], [0, 1]] (rel [is (.agg #[.int .i64 b.tab, .slice (a1) (b.panels.length) (c1), .int .i64 b.height, .slice (a2) (b.top.length) (c2), .slice (a3) (b.bottom.length) (c3), .int .i64 b.slot, .bool b.isOpen]),
   is (.int .i64 xb),
   is (.int .i64 xb)])
  ⟨is_k, is_k, is_k, trivial⟩
  ⟨fun f s W l m p q r j => opv rfl rfl (by simp [go_sem, j.e 3 k7_3, Joins.cell_of_block (blk_below b7_0 l) 0, Joins.cell_of_block (blk_below b7_0 l) 1, Joins.cell_of_block (blk_below b7_0 l) 2, Joins.cell_of_block (blk_below b7_0 l) 3, Joins.cell_of_block (blk_below b7_0 l) 4, Joins.cell_of_block (blk_below b7_0 l) 5, Joins.cell_of_block (blk_below b7_0 l) 6]) rfl,
  fun f s W l m p q r j => by have x := below_trans fB7 l; exact opDo_call (args := #[.agg #[.int .i64 b.tab, .slice (a1) (b.panels.length) (c1), .int .i64 b.height, .slice (a2) (b.top.length) (c2), .slice (a3) (b.bottom.length) (c3), .int .i64 b.slot, .bool b.isOpen]]) rfl rfl (by simp [go_sem, j.e 50 (m 0 rfl)]) (refCheck_blk ⟨_, _, _, _, _, _, _, _, _, rfl, (h1.below x (Nat.le_refl _)), (h2.below x (Nat.le_refl _)), (h3.below x (Nat.le_refl _))⟩) ((fun e W' h => by have h1 := h.1; rw [refCheck_eq, hxb] at h1; exact ⟨_, h1, h.2, rfl⟩)),
  fun f s W l m p q r j => opv rfl rfl (by simp [go_sem, j.e 51 (m 1 rfl)]) rfl, trivial⟩ ?_
 intro f8 s8 W8 hB8 g8 hg8
 have fB8 := below_trans fB7 hB8.below
 have z8 := hB8.below.size
 have b8_0 := blk_below b7_0 hB8.below
 have b8_1 := blk_below b7_1 hB8.below
 have b8_2 := blk_below b7_2 hB8.below
 have q86' := (q85'.below hB8.below (Nat.le_refl _))
 refine hK10 _ _ ?_
 have k8_3 := kt hg8 3 k7_3
 have k8_4 := kt hg8 4 k7_4
 have k8_5 := kt hg8 5 k7_5
 have k8_6 := kt hg8 6 k7_6
 have k8_9 := kt hg8 9 k7_9
 have k8_10 := kt hg8 10 k7_10
 have k8_11 := kt hg8 11 (hB8.is 2)
 refine wp_seq_k fun K11 hK11 => ?_
 refine wp_seq_k fun K12 hK12 => ?_
 refine region_dk 2 [(52, 0), (53, 1)] [[], [0]] (rel [is (.int .i64 xb),
   is (.bool (xb == 0))])
  ⟨is_k, is_k, trivial⟩
  ⟨fun f s W l m p q r j => opv rfl rfl (by simp [go_sem, j.e 11 k8_11]) rfl,
  fun f s W l m p q r j => opv rfl rfl (by simp [go_sem, j.e 52 (m 0 rfl)]) rfl, trivial⟩ ?_
 intro f9 s9 W9 hB9 g9 hg9
 have fB9 := below_trans fB8 hB9.below
 have z9 := hB9.below.size
 have b9_0 := blk_below b8_0 hB9.below
 have b9_1 := blk_below b8_1 hB9.below
 have b9_2 := blk_below b8_2 hB9.below
 have q87' := (q86'.below hB9.below (Nat.le_refl _))
 refine hK12 _ _ ?_
 have k9_3 := kt hg9 3 k8_3
 have k9_4 := kt hg9 4 k8_4
 have k9_5 := kt hg9 5 k8_5
 have k9_6 := kt hg9 6 k8_6
 have k9_9 := kt hg9 9 k8_9
 have k9_10 := kt hg9 10 k8_10
 have k9_11 := kt hg9 11 k8_11
 have k9_53 := kt hg9 53 (hB9.is 1)
 refine wp_cond_split (t := xb == 0) ((fr_eval rfl).trans k9_53) (fun hc13 => ?_) (fun hc13 => ?_)
 ·
  have hc13' := hc13; try simp only [decide_eq_true_eq, decide_eq_false_iff_not, Bool.and_eq_true, Bool.or_eq_true, Bool.and_eq_false_iff, Bool.or_eq_false_iff, beq_iff_eq, bne_iff_ne, Bool.not_eq_true', Bool.not_eq_false', ne_eq, bne_eq_false_iff_eq, beq_eq_false_iff_ne] at hc13'
  have zb : checkErr b = 0 := by rw [hxb]; exact beq_iff_eq.1 hc13
  refine region_dk 3 [(54, 0), (55, 1), (11, 2)] [[], [0], [0, 1]] (rel [is (.agg #[.int .i64 d.tab, .slice (x1) (d.panels.length) (y1), .int .i64 d.height, .slice (x2) (d.top.length) (y2), .slice (x3) (d.bottom.length) (y3), .int .i64 d.slot, .bool d.isOpen]),
   is (.int .i64 xd),
   is (.int .i64 xd)])
   ⟨is_k, is_k, is_k, trivial⟩
   ⟨fun f s W l m p q r j => opv rfl rfl (by simp [go_sem, j.e 4 k9_4, Joins.cell_of_block (blk_below b9_1 l) 0, Joins.cell_of_block (blk_below b9_1 l) 1, Joins.cell_of_block (blk_below b9_1 l) 2, Joins.cell_of_block (blk_below b9_1 l) 3, Joins.cell_of_block (blk_below b9_1 l) 4, Joins.cell_of_block (blk_below b9_1 l) 5, Joins.cell_of_block (blk_below b9_1 l) 6]) rfl,
  fun f s W l m p q r j => by have x := below_trans fB9 l; exact opDo_call (args := #[.agg #[.int .i64 d.tab, .slice (x1) (d.panels.length) (y1), .int .i64 d.height, .slice (x2) (d.top.length) (y2), .slice (x3) (d.bottom.length) (y3), .int .i64 d.slot, .bool d.isOpen]]) rfl rfl (by simp [go_sem, j.e 54 (m 0 rfl)]) (refCheck_blk ⟨_, _, _, _, _, _, _, _, _, rfl, (m1.below x (Nat.le_refl _)), (m2.below x (Nat.le_refl _)), (m3.below x (Nat.le_refl _))⟩) ((fun e W' h => by have h1 := h.1; rw [refCheck_eq, hxd] at h1; exact ⟨_, h1, h.2, rfl⟩)),
  fun f s W l m p q r j => opv rfl rfl (by simp [go_sem, j.e 55 (m 1 rfl)]) rfl, trivial⟩ ?_
  intro f10 s10 W10 hB10 g10 hg10
  have fB10 := below_trans fB9 hB10.below
  have z10 := hB10.below.size
  have b10_0 := blk_below b9_0 hB10.below
  have b10_1 := blk_below b9_1 hB10.below
  have b10_2 := blk_below b9_2 hB10.below
  have q88' := (q87'.below hB10.below (Nat.le_refl _))
  refine hK11 _ _ ?_
  have k10_3 := kt hg10 3 k9_3
  have k10_4 := kt hg10 4 k9_4
  have k10_5 := kt hg10 5 k9_5
  have k10_6 := kt hg10 6 k9_6
  have k10_9 := kt hg10 9 k9_9
  have k10_10 := kt hg10 10 k9_10
  have k10_11 := kt hg10 11 (hB10.is 2)
  refine wp_seq_k fun K14 hK14 => ?_
  refine wp_seq_k fun K15 hK15 => ?_
  refine region_dk 1 [(12, 0)] [[]] (rel [is (.int .i64 0)])
   ⟨is_k, trivial⟩
   ⟨fun f s W l m p q r j => opv rfl rfl (by simp [go_sem]) rfl, trivial⟩ ?_
  intro f11 s11 W11 hB11 g11 hg11
  have fB11 := below_trans fB10 hB11.below
  have z11 := hB11.below.size
  have b11_0 := blk_below b10_0 hB11.below
  have b11_1 := blk_below b10_1 hB11.below
  have b11_2 := blk_below b10_2 hB11.below
  have q89' := (q88'.below hB11.below (Nat.le_refl _))
  refine hK15 _ _ ?_
  have k11_3 := kt hg11 3 k10_3
  have k11_4 := kt hg11 4 k10_4
  have k11_5 := kt hg11 5 k10_5
  have k11_6 := kt hg11 6 k10_6
  have k11_9 := kt hg11 9 k10_9
  have k11_10 := kt hg11 10 k10_10
  have k11_11 := kt hg11 11 k10_11
  have k11_12 := kt hg11 12 (hB11.is 0)
  refine wp_block ?_
  refine wp_loop_rounds 3 ?_
  rw [rounds_succ]
  refine wp_seq_k fun K16 hK16 => ?_
  refine wp_seq_k fun K17 hK17 => ?_
  refine region_dk 6 [(56, 0), (57, 1), (58, 2), (59, 3), (60, 4), (61, 5)] [[], [0], [0, 1], [0, 1, 2], [0, 1, 2, 3], [0, 1, 2, 3, 4]] (rel [is (.int .i64 0),
   is (.bool true),
   is (.bool true),
   gd (true) true (is (.int .i64 xd)),
   gd (true) true (is (.bool (xd == 0))),
   is (.bool (xd == 0))])
   ⟨is_k, is_k, is_k, gd_k (is_k), gd_k (is_k), is_k, trivial⟩
   ⟨fun f s W l m p q r j => opv rfl rfl (by simp [go_sem, j.e 12 k11_12]) rfl,
  fun f s W l m p q r j => opv rfl rfl (by simp [go_sem, j.e 56 (m 0 rfl)]) rfl,
  fun f s W l m p q r j => opv rfl rfl (by simp [go_sem, j.e 57 (m 1 rfl)]) rfl,
  fun f s W l m p q r j => gdo rfl rfl (j.says (d := 58) rfl rfl (m 2 rfl)) fun hgd0 => gv (by simp [go_sem, j.e 11 k11_11]) rfl,
  fun f s W l m p q r j => gdo rfl rfl (j.says (d := 58) rfl rfl (m 2 rfl)) fun hgd0 => gv (by simp [go_sem, j.e 59 ((m 3 rfl).1 hgd0)]) rfl,
  fun f s W l m p q r j => opk (c := true) rfl rfl (fun h => absurd h (by decide)) (fun _ => by simp [go_sem, j.e 58 (m 2 rfl), j.e 60 ((m 4 rfl).1 rfl)]), trivial⟩ ?_
  intro f12 s12 W12 hB12 g12 hg12
  have fB12 := below_trans fB11 hB12.below
  have z12 := hB12.below.size
  have b12_0 := blk_below b11_0 hB12.below
  have b12_1 := blk_below b11_1 hB12.below
  have b12_2 := blk_below b11_2 hB12.below
  have q90' := (q89'.below hB12.below (Nat.le_refl _))
  refine hK17 _ _ ?_
  have k12_3 := kt hg12 3 k11_3
  have k12_4 := kt hg12 4 k11_4
  have k12_5 := kt hg12 5 k11_5
  have k12_6 := kt hg12 6 k11_6
  have k12_9 := kt hg12 9 k11_9
  have k12_10 := kt hg12 10 k11_10
  have k12_11 := kt hg12 11 k11_11
  have k12_12 := kt hg12 12 k11_12
  have k12_61 := kt hg12 61 (hB12.is 5)
  refine wp_cond_split (t := xd == 0) ((fr_eval rfl).trans k12_61) (fun hc18 => ?_) (fun hc18 => ?_)
  ·
   have hc18' := hc18; try simp only [decide_eq_true_eq, decide_eq_false_iff_not, Bool.and_eq_true, Bool.or_eq_true, Bool.and_eq_false_iff, Bool.or_eq_false_iff, beq_iff_eq, bne_iff_ne, Bool.not_eq_true', Bool.not_eq_false', ne_eq, bne_eq_false_iff_eq, beq_eq_false_iff_ne] at hc18'
   have hckd : checkErr d = 0 := by rw [hxd]; exact beq_iff_eq.1 hc18
   have hckb := zb
   have hnd : (xd != 0) = false := by rw [bne_eq_false_iff_eq]; exact beq_iff_eq.1 hc18
   refine wp_skip ?_
   refine hK16 _ _ ?_
   refine wp_seq_k fun K19 hK19 => ?_
   refine wp_block ?_
   refine wp_seq_k fun K20 hK20 => ?_
   refine region_dk 5 [(64, 0), (65, 1), (66, 2), (67, 3), (68, 4)] [[], [0], [0, 1], [0, 1, 2], [0, 1, 2, 3]] (rel [is (.int .i64 0),
   is (.pointer (some ⟨(s1 2), 0, none⟩)),
   is (.agg #[.int .i64 lo1, .int .i64 hi1]),
   is (.bool sp1),
   is (.bool (!sp1))])
    ⟨is_k, is_k, is_k, is_k, is_k, trivial⟩
    ⟨fun f s W l m p q r j => opv rfl rfl (by simp [go_sem, j.e 12 k12_12]) rfl,
  fun f s W l m p q r j => opv rfl rfl (by simp [go_sem, j.e 5 k12_5, j.e 64 (m 0 rfl)]) rfl,
  fun f s W l m p q r j => opv rfl rfl (by simp [go_sem, j.e 65 (m 1 rfl), Joins.cell_of_block (blk_below b12_2 l) 0, Joins.cell_of_block (blk_below b12_2 l) 1]) rfl,
  fun f s W l m p q r j => opDo_call rfl rfl (by simp [go_sem, j.e 66 (m 2 rfl)]) (spanR_any lo1 hi1 1 10000 W) ((fun e W' h => by have h1 := h.1; rw [spanR_eq, hsp1] at h1; exact ⟨_, h1, h.2, rfl⟩)),
  fun f s W l m p q r j => opv rfl rfl (by simp [go_sem, j.e 67 (m 3 rfl)]) rfl, trivial⟩ ?_
   intro f13 s13 W13 hB13 g13 hg13
   have fB13 := below_trans fB12 hB13.below
   have z13 := hB13.below.size
   have b13_0 := blk_below b12_0 hB13.below
   have b13_1 := blk_below b12_1 hB13.below
   have b13_2 := blk_below b12_2 hB13.below
   have q91' := (q90'.below hB13.below (Nat.le_refl _))
   refine hK20 _ _ ?_
   have k13_3 := kt hg13 3 k12_3
   have k13_4 := kt hg13 4 k12_4
   have k13_5 := kt hg13 5 k12_5
   have k13_6 := kt hg13 6 k12_6
   have k13_9 := kt hg13 9 k12_9
   have k13_10 := kt hg13 10 k12_10
   have k13_11 := kt hg13 11 k12_11
   have k13_12 := kt hg13 12 k12_12
   have k13_61 := kt hg13 61 k12_61
   have k13_68 := kt hg13 68 (hB13.is 4)
   refine wp_cond_split (t := !sp1) ((fr_eval rfl).trans k13_68) (fun hc21 => ?_) (fun hc21 => ?_)
   ·
    have hc21' := hc21; try simp only [decide_eq_true_eq, decide_eq_false_iff_not, Bool.and_eq_true, Bool.or_eq_true, Bool.and_eq_false_iff, Bool.or_eq_false_iff, beq_iff_eq, bne_iff_ne, Bool.not_eq_true', Bool.not_eq_false', ne_eq, bne_eq_false_iff_eq, beq_eq_false_iff_ne] at hc21'
    have hs1 : isSpan (lo1, hi1) 1 10000 = false := by rw [hsp1]; simpa using hc21
    have hQ : (E == 3) = true := by rw [beq_iff_eq, ← hE]; exact play_e3 hckb hckd hs1
    have hL0 := play_bad hL hQ rfl
    refine region_dk 1 [(11, 0)] [[]] (rel [is (.int .i64 3)])
     ⟨is_k, trivial⟩
     ⟨fun f s W l m p q r j => opv rfl rfl (by simp [go_sem]) rfl, trivial⟩ ?_
    intro f14 s14 W14 hB14 g14 hg14
    have fB14 := below_trans fB13 hB14.below
    have z14 := hB14.below.size
    have b14_0 := blk_below b13_0 hB14.below
    have b14_1 := blk_below b13_1 hB14.below
    have b14_2 := blk_below b13_2 hB14.below
    have q92' := (q91'.below hB14.below (Nat.le_refl _))
    refine wpOps_end ?_
    have k14_3 := kt hg14 3 k13_3
    have k14_4 := kt hg14 4 k13_4
    have k14_5 := kt hg14 5 k13_5
    have k14_6 := kt hg14 6 k13_6
    have k14_9 := kt hg14 9 k13_9
    have k14_10 := kt hg14 10 k13_10
    have k14_12 := kt hg14 12 k13_12
    have k14_61 := kt hg14 61 k13_61
    have k14_68 := kt hg14 68 k13_68
    have k14_11 := kt hg14 11 (hB14.is 0)
    refine inBlock_normal ?_
    refine hK19 _ _ ?_
    refine region_dk 3 [(62, 0), (63, 1), (12, 2)] [[], [0], [0, 1]] (rel [is (.int .i64 0),
   is (.int .i64 1),
   is (.int .i64 1)])
     ⟨is_k, is_k, is_k, trivial⟩
     ⟨fun f s W l m p q r j => opv rfl rfl (by simp [go_sem, j.e 12 ((q 2 12 rfl rfl).trans k14_12)]) rfl,
  fun f s W l m p q r j => opv rfl rfl (by simp [go_sem, j.e 62 (m 0 rfl), IntWalk.i64_in (1) (by omega)]) rfl,
  fun f s W l m p q r j => opv rfl rfl (by simp [go_sem, j.e 63 (m 1 rfl)]) rfl, trivial⟩ ?_
    intro f15 s15 W15 hB15 g15 hg15
    have fB15 := below_trans fB14 hB15.below
    have z15 := hB15.below.size
    have b15_0 := blk_below b14_0 hB15.below
    have b15_1 := blk_below b14_1 hB15.below
    have b15_2 := blk_below b14_2 hB15.below
    have q93' := (q92'.below hB15.below (Nat.le_refl _))
    refine wpOps_end ?_
    have k15_3 := kt hg15 3 k14_3
    have k15_4 := kt hg15 4 k14_4
    have k15_5 := kt hg15 5 k14_5
    have k15_6 := kt hg15 6 k14_6
    have k15_9 := kt hg15 9 k14_9
    have k15_10 := kt hg15 10 k14_10
    have k15_61 := kt hg15 61 k14_61
    have k15_68 := kt hg15 68 k14_68
    have k15_11 := kt hg15 11 k14_11
    have k15_12 := kt hg15 12 (hB15.is 2)
    refine then_normal ?_
    rw [rounds_succ]
    refine wp_seq_k fun K22 hK22 => ?_
    refine wp_seq_k fun K23 hK23 => ?_
    refine region_dk 6 [(56, 0), (57, 1), (58, 2), (59, 3), (60, 4), (61, 5)] [[], [0], [0, 1], [0, 1, 2], [0, 1, 2, 3], [0, 1, 2, 3, 4]] (rel [is (.int .i64 1),
   is (.bool true),
   is (.bool true),
   gd (true) true (is (.int .i64 3)),
   gd (true) true (is (.bool false)),
   is (.bool false)])
     ⟨is_k, is_k, is_k, gd_k (is_k), gd_k (is_k), is_k, trivial⟩
     ⟨fun f s W l m p q r j => opv rfl rfl (by simp [go_sem, j.e 12 k15_12]) rfl,
  fun f s W l m p q r j => opv rfl rfl (by simp [go_sem, j.e 56 (m 0 rfl)]) rfl,
  fun f s W l m p q r j => opv rfl rfl (by simp [go_sem, j.e 57 (m 1 rfl)]) rfl,
  fun f s W l m p q r j => gdo rfl rfl (j.says (d := 58) rfl rfl (m 2 rfl)) fun hgd0 => gv (by simp [go_sem, j.e 11 k15_11]) rfl,
  fun f s W l m p q r j => gdo rfl rfl (j.says (d := 58) rfl rfl (m 2 rfl)) fun hgd0 => gv (by simp [go_sem, j.e 59 ((m 3 rfl).1 hgd0)]) rfl,
  fun f s W l m p q r j => opk (c := true) rfl rfl (fun h => absurd h (by decide)) (fun _ => by simp [go_sem, j.e 58 (m 2 rfl), j.e 60 ((m 4 rfl).1 rfl)]), trivial⟩ ?_
    intro f16 s16 W16 hB16 g16 hg16
    have fB16 := below_trans fB15 hB16.below
    have z16 := hB16.below.size
    have b16_0 := blk_below b15_0 hB16.below
    have b16_1 := blk_below b15_1 hB16.below
    have b16_2 := blk_below b15_2 hB16.below
    have q94' := (q93'.below hB16.below (Nat.le_refl _))
    refine hK23 _ _ ?_
    have k16_3 := kt hg16 3 k15_3
    have k16_4 := kt hg16 4 k15_4
    have k16_5 := kt hg16 5 k15_5
    have k16_6 := kt hg16 6 k15_6
    have k16_9 := kt hg16 9 k15_9
    have k16_10 := kt hg16 10 k15_10
    have k16_68 := kt hg16 68 k15_68
    have k16_11 := kt hg16 11 k15_11
    have k16_12 := kt hg16 12 k15_12
    have k16_61 := kt hg16 61 (hB16.is 5)
    refine wp_cond_false ((fr_eval rfl).trans k16_61) ?_
    refine wp_exit ?_
    refine then_exit ?_
    refine then_exit ?_
    refine inBlock_at ?_
    refine hK14 _ _ ?_
    refine wp_seq_k fun K25 hK25 => ?_
    refine wp_seq_k fun K26 hK26 => ?_
    refine region_dk 2 [(69, 0), (70, 1)] [[], [0]] (rel [is (.int .i64 3),
   is (.bool true)])
     ⟨is_k, is_k, trivial⟩
     ⟨fun f s W l m p q r j => opv rfl rfl (by simp [go_sem, j.e 11 k16_11]) rfl,
  fun f s W l m p q r j => opv rfl rfl (by simp [go_sem, j.e 69 (m 0 rfl)]) rfl, trivial⟩ ?_
    intro f17 s17 W17 hB17 g17 hg17
    have fB17 := below_trans fB16 hB17.below
    have z17 := hB17.below.size
    have b17_0 := blk_below b16_0 hB17.below
    have b17_1 := blk_below b16_1 hB17.below
    have b17_2 := blk_below b16_2 hB17.below
    have q95' := (q94'.below hB17.below (Nat.le_refl _))
    refine hK26 _ _ ?_
    have k17_3 := kt hg17 3 k16_3
    have k17_4 := kt hg17 4 k16_4
    have k17_5 := kt hg17 5 k16_5
    have k17_6 := kt hg17 6 k16_6
    have k17_9 := kt hg17 9 k16_9
    have k17_10 := kt hg17 10 k16_10
    have k17_11 := kt hg17 11 k16_11
    have k17_70 := kt hg17 70 (hB17.is 1)
    refine wp_cond_true ((fr_eval rfl).trans k17_70) ?_
    refine wp_seq_k fun K28 hK28 => ?_
    refine region_dk 12 [(71, 0), (72, 1), (73, 2), (74, 3), (75, 4), (76, 5), (77, 6), (78, 7), (79, 8), (80, 9), (81, 10), (6, 11)] [[], [], [0, 1], [0, 1, 2], [0, 1, 2, 3], [0, 1, 2, 3, 4], [0, 1, 2, 3, 4, 5], [0, 1, 2, 3, 4, 5, 6], [0, 1, 2, 3, 4, 5, 6, 7], [0, 1, 2, 3, 4, 5, 6, 7, 8], [0, 1, 2, 3, 4, 5, 6, 7, 8, 9], [0, 1, 2, 3, 4, 5, 6, 7, 8, 9, 10]] (rel [is (.int .i64 E),
   is (.int .i64 3),
   is (.bool true),
   is (.bool true),
   gd (true) true (is (.slice (a70') (L.length) (c71'))),
   gd (true) true (is (.int .i64 ((L.length : Int)))),
   gd (true) true (is (.bool true)),
   is (.bool true),
   is (.bool true),
   gd (true) true (is (.bool true)),
   is (.bool true),
   is (.bool true)])
     ⟨is_k, is_k, is_k, is_k, gd_k (is_k), gd_k (is_k), gd_k (is_k), is_k, is_k, gd_k (is_k), is_k, is_k, trivial⟩
     ⟨fun f s W l m p q r j => opv rfl rfl (by simp [go_sem, j.e 10 k17_10]) rfl,
  fun f s W l m p q r j => opv rfl rfl (by simp [go_sem, j.e 11 k17_11]) rfl,
  fun f s W l m p q r j => opv rfl rfl (by simp [go_sem, j.e 71 (m 0 rfl), j.e 72 (m 1 rfl), hQ]) rfl,
  fun f s W l m p q r j => opv rfl rfl (by simp [go_sem, j.e 73 (m 2 rfl)]) rfl,
  fun f s W l m p q r j => gdo rfl rfl (j.says (d := 74) rfl rfl (m 3 rfl)) fun hgd0 => gv (by simp [go_sem, j.e 9 k17_9]) rfl,
  fun f s W l m p q r j => gdo rfl rfl (j.says (d := 74) rfl rfl (m 3 rfl)) fun hgd0 => gv (by simp [go_sem, j.e 75 ((m 4 rfl).1 hgd0)]) rfl,
  fun f s W l m p q r j => gdo rfl rfl (j.says (d := 74) rfl rfl (m 3 rfl)) fun hgd0 => gv (by simp [go_sem, j.e 76 ((m 5 rfl).1 hgd0), hL0]) rfl,
  fun f s W l m p q r j => opk (c := true) rfl rfl (fun h => absurd h (by decide)) (fun _ => by simp [go_sem, j.e 74 (m 3 rfl), j.e 77 ((m 6 rfl).1 rfl)]),
  fun f s W l m p q r j => opv rfl rfl (by simp [go_sem, j.e 78 (m 7 rfl)]) rfl,
  fun f s W l m p q r j => gdo rfl rfl (j.says (d := 79) rfl rfl (m 8 rfl)) fun hgd0 => gc (by simp [go_sem]) (known_any W),
  fun f s W l m p q r j => opk (c := true) rfl rfl (fun h => absurd h (by decide)) (fun _ => by simp [go_sem, j.e 79 (m 8 rfl), j.e 80 ((m 9 rfl).1 rfl)]),
  fun f s W l m p q r j => opv rfl rfl (by simp [go_sem, j.e 81 (m 10 rfl)]) rfl, trivial⟩ ?_
    intro f18 s18 W18 hB18 g18 hg18
    have fB18 := below_trans fB17 hB18.below
    have z18 := hB18.below.size
    have b18_0 := blk_below b17_0 hB18.below
    have b18_1 := blk_below b17_1 hB18.below
    have b18_2 := blk_below b17_2 hB18.below
    have q96' := (q95'.below hB18.below (Nat.le_refl _))
    refine hK28 _ _ ?_
    have k18_3 := kt hg18 3 k17_3
    have k18_4 := kt hg18 4 k17_4
    have k18_5 := kt hg18 5 k17_5
    have k18_9 := kt hg18 9 k17_9
    have k18_10 := kt hg18 10 k17_10
    have k18_6 := kt hg18 6 (hB18.is 11)
    refine wp_ret ?_
    refine then_ret ?_
    refine leave_one (N := 143) (v := .bool true) (.inr rfl) Try.results4 rfl k18_6 ?_
    exact ⟨rfl, fB18⟩
   ·
    have hc21' := hc21; try simp only [decide_eq_true_eq, decide_eq_false_iff_not, Bool.and_eq_true, Bool.or_eq_true, Bool.and_eq_false_iff, Bool.or_eq_false_iff, beq_iff_eq, bne_iff_ne, Bool.not_eq_true', Bool.not_eq_false', ne_eq, bne_eq_false_iff_eq, beq_eq_false_iff_ne] at hc21'
    have hs1 : isSpan (lo1, hi1) 1 10000 = true := by rw [hsp1]; simpa using hc21
    refine wp_skip ?_
    refine inBlock_normal ?_
    refine hK19 _ _ ?_
    refine region_dk 3 [(62, 0), (63, 1), (12, 2)] [[], [0], [0, 1]] (rel [is (.int .i64 0),
   is (.int .i64 1),
   is (.int .i64 1)])
     ⟨is_k, is_k, is_k, trivial⟩
     ⟨fun f s W l m p q r j => opv rfl rfl (by simp [go_sem, j.e 12 ((q 2 12 rfl rfl).trans k13_12)]) rfl,
  fun f s W l m p q r j => opv rfl rfl (by simp [go_sem, j.e 62 (m 0 rfl), IntWalk.i64_in (1) (by omega)]) rfl,
  fun f s W l m p q r j => opv rfl rfl (by simp [go_sem, j.e 63 (m 1 rfl)]) rfl, trivial⟩ ?_
    intro f19 s19 W19 hB19 g19 hg19
    have fB19 := below_trans fB13 hB19.below
    have z19 := hB19.below.size
    have b19_0 := blk_below b13_0 hB19.below
    have b19_1 := blk_below b13_1 hB19.below
    have b19_2 := blk_below b13_2 hB19.below
    have q97' := (q91'.below hB19.below (Nat.le_refl _))
    refine wpOps_end ?_
    have k19_3 := kt hg19 3 k13_3
    have k19_4 := kt hg19 4 k13_4
    have k19_5 := kt hg19 5 k13_5
    have k19_6 := kt hg19 6 k13_6
    have k19_9 := kt hg19 9 k13_9
    have k19_10 := kt hg19 10 k13_10
    have k19_11 := kt hg19 11 k13_11
    have k19_61 := kt hg19 61 k13_61
    have k19_68 := kt hg19 68 k13_68
    have k19_12 := kt hg19 12 (hB19.is 2)
    refine then_normal ?_
    rw [rounds_succ]
    refine wp_seq_k fun K29 hK29 => ?_
    refine wp_seq_k fun K30 hK30 => ?_
    refine region_dk 6 [(56, 0), (57, 1), (58, 2), (59, 3), (60, 4), (61, 5)] [[], [0], [0, 1], [0, 1, 2], [0, 1, 2, 3], [0, 1, 2, 3, 4]] (rel [is (.int .i64 1),
   is (.bool true),
   is (.bool true),
   gd (true) true (is (.int .i64 xd)),
   gd (true) true (is (.bool (xd == 0))),
   is (.bool (xd == 0))])
     ⟨is_k, is_k, is_k, gd_k (is_k), gd_k (is_k), is_k, trivial⟩
     ⟨fun f s W l m p q r j => opv rfl rfl (by simp [go_sem, j.e 12 k19_12]) rfl,
  fun f s W l m p q r j => opv rfl rfl (by simp [go_sem, j.e 56 (m 0 rfl)]) rfl,
  fun f s W l m p q r j => opv rfl rfl (by simp [go_sem, j.e 57 (m 1 rfl)]) rfl,
  fun f s W l m p q r j => gdo rfl rfl (j.says (d := 58) rfl rfl (m 2 rfl)) fun hgd0 => gv (by simp [go_sem, j.e 11 k19_11]) rfl,
  fun f s W l m p q r j => gdo rfl rfl (j.says (d := 58) rfl rfl (m 2 rfl)) fun hgd0 => gv (by simp [go_sem, j.e 59 ((m 3 rfl).1 hgd0)]) rfl,
  fun f s W l m p q r j => opk (c := true) rfl rfl (fun h => absurd h (by decide)) (fun _ => by simp [go_sem, j.e 58 (m 2 rfl), j.e 60 ((m 4 rfl).1 rfl)]), trivial⟩ ?_
    intro f20 s20 W20 hB20 g20 hg20
    have fB20 := below_trans fB19 hB20.below
    have z20 := hB20.below.size
    have b20_0 := blk_below b19_0 hB20.below
    have b20_1 := blk_below b19_1 hB20.below
    have b20_2 := blk_below b19_2 hB20.below
    have q98' := (q97'.below hB20.below (Nat.le_refl _))
    refine hK30 _ _ ?_
    have k20_3 := kt hg20 3 k19_3
    have k20_4 := kt hg20 4 k19_4
    have k20_5 := kt hg20 5 k19_5
    have k20_6 := kt hg20 6 k19_6
    have k20_9 := kt hg20 9 k19_9
    have k20_10 := kt hg20 10 k19_10
    have k20_11 := kt hg20 11 k19_11
    have k20_68 := kt hg20 68 k19_68
    have k20_12 := kt hg20 12 k19_12
    have k20_61 := kt hg20 61 (hB20.is 5)
    have hc31 : (fr 143 g20).eval (.tmp 61) = .bool true := ((fr_eval rfl).trans k20_61).trans (by rw [hc18])
    refine wp_cond_true (hc31) ?_
    refine wp_skip ?_
    refine hK29 _ _ ?_
    refine wp_seq_k fun K32 hK32 => ?_
    refine wp_block ?_
    refine wp_seq_k fun K33 hK33 => ?_
    refine region_dk 5 [(64, 0), (65, 1), (66, 2), (67, 3), (68, 4)] [[], [0], [0, 1], [0, 1, 2], [0, 1, 2, 3]] (rel [is (.int .i64 1),
   is (.pointer (some ⟨(s1 2), 2, none⟩)),
   is (.agg #[.int .i64 lo2, .int .i64 hi2]),
   is (.bool sp2),
   is (.bool (!sp2))])
     ⟨is_k, is_k, is_k, is_k, is_k, trivial⟩
     ⟨fun f s W l m p q r j => opv rfl rfl (by simp [go_sem, j.e 12 k20_12]) rfl,
  fun f s W l m p q r j => opv rfl rfl (by simp [go_sem, j.e 5 k20_5, j.e 64 (m 0 rfl)]) rfl,
  fun f s W l m p q r j => opv rfl rfl (by simp [go_sem, j.e 65 (m 1 rfl), Joins.cell_of_block (blk_below b20_2 l) 2, Joins.cell_of_block (blk_below b20_2 l) 3]) rfl,
  fun f s W l m p q r j => opDo_call rfl rfl (by simp [go_sem, j.e 66 (m 2 rfl)]) (spanR_any lo2 hi2 1 10000 W) ((fun e W' h => by have h1 := h.1; rw [spanR_eq, hsp2] at h1; exact ⟨_, h1, h.2, rfl⟩)),
  fun f s W l m p q r j => opv rfl rfl (by simp [go_sem, j.e 67 (m 3 rfl)]) rfl, trivial⟩ ?_
    intro f21 s21 W21 hB21 g21 hg21
    have fB21 := below_trans fB20 hB21.below
    have z21 := hB21.below.size
    have b21_0 := blk_below b20_0 hB21.below
    have b21_1 := blk_below b20_1 hB21.below
    have b21_2 := blk_below b20_2 hB21.below
    have q99' := (q98'.below hB21.below (Nat.le_refl _))
    refine hK33 _ _ ?_
    have k21_3 := kt hg21 3 k20_3
    have k21_4 := kt hg21 4 k20_4
    have k21_5 := kt hg21 5 k20_5
    have k21_6 := kt hg21 6 k20_6
    have k21_9 := kt hg21 9 k20_9
    have k21_10 := kt hg21 10 k20_10
    have k21_11 := kt hg21 11 k20_11
    have k21_12 := kt hg21 12 k20_12
    have k21_61 := kt hg21 61 k20_61
    have k21_68 := kt hg21 68 (hB21.is 4)
    refine wp_cond_split (t := !sp2) ((fr_eval rfl).trans k21_68) (fun hc34 => ?_) (fun hc34 => ?_)
    ·
     have hc34' := hc34; try simp only [decide_eq_true_eq, decide_eq_false_iff_not, Bool.and_eq_true, Bool.or_eq_true, Bool.and_eq_false_iff, Bool.or_eq_false_iff, beq_iff_eq, bne_iff_ne, Bool.not_eq_true', Bool.not_eq_false', ne_eq, bne_eq_false_iff_eq, beq_eq_false_iff_ne] at hc34'
     have hs2 : isSpan (lo2, hi2) 1 10000 = false := by rw [hsp2]; simpa using hc34
     have hQ : (E == 3) = true := by rw [beq_iff_eq, ← hE]; exact play_e4 hckb hckd hs2
     have hL0 := play_bad hL hQ rfl
     refine region_dk 1 [(11, 0)] [[]] (rel [is (.int .i64 3)])
      ⟨is_k, trivial⟩
      ⟨fun f s W l m p q r j => opv rfl rfl (by simp [go_sem]) rfl, trivial⟩ ?_
     intro f22 s22 W22 hB22 g22 hg22
     have fB22 := below_trans fB21 hB22.below
     have z22 := hB22.below.size
     have b22_0 := blk_below b21_0 hB22.below
     have b22_1 := blk_below b21_1 hB22.below
     have b22_2 := blk_below b21_2 hB22.below
     have q100' := (q99'.below hB22.below (Nat.le_refl _))
     refine wpOps_end ?_
     have k22_3 := kt hg22 3 k21_3
     have k22_4 := kt hg22 4 k21_4
     have k22_5 := kt hg22 5 k21_5
     have k22_6 := kt hg22 6 k21_6
     have k22_9 := kt hg22 9 k21_9
     have k22_10 := kt hg22 10 k21_10
     have k22_12 := kt hg22 12 k21_12
     have k22_61 := kt hg22 61 k21_61
     have k22_68 := kt hg22 68 k21_68
     have k22_11 := kt hg22 11 (hB22.is 0)
     refine inBlock_normal ?_
     refine hK32 _ _ ?_
     refine region_dk 3 [(62, 0), (63, 1), (12, 2)] [[], [0], [0, 1]] (rel [is (.int .i64 1),
   is (.int .i64 2),
   is (.int .i64 2)])
      ⟨is_k, is_k, is_k, trivial⟩
      ⟨fun f s W l m p q r j => opv rfl rfl (by simp [go_sem, j.e 12 ((q 2 12 rfl rfl).trans k22_12)]) rfl,
  fun f s W l m p q r j => opv rfl rfl (by simp [go_sem, j.e 62 (m 0 rfl), IntWalk.i64_in (2) (by omega)]) rfl,
  fun f s W l m p q r j => opv rfl rfl (by simp [go_sem, j.e 63 (m 1 rfl)]) rfl, trivial⟩ ?_
     intro f23 s23 W23 hB23 g23 hg23
     have fB23 := below_trans fB22 hB23.below
     have z23 := hB23.below.size
     have b23_0 := blk_below b22_0 hB23.below
     have b23_1 := blk_below b22_1 hB23.below
     have b23_2 := blk_below b22_2 hB23.below
     have q101' := (q100'.below hB23.below (Nat.le_refl _))
     refine wpOps_end ?_
     have k23_3 := kt hg23 3 k22_3
     have k23_4 := kt hg23 4 k22_4
     have k23_5 := kt hg23 5 k22_5
     have k23_6 := kt hg23 6 k22_6
     have k23_9 := kt hg23 9 k22_9
     have k23_10 := kt hg23 10 k22_10
     have k23_61 := kt hg23 61 k22_61
     have k23_68 := kt hg23 68 k22_68
     have k23_11 := kt hg23 11 k22_11
     have k23_12 := kt hg23 12 (hB23.is 2)
     refine then_normal ?_
     rw [rounds_succ]
     refine wp_seq_k fun K35 hK35 => ?_
     refine wp_seq_k fun K36 hK36 => ?_
     refine region_dk 6 [(56, 0), (57, 1), (58, 2), (59, 3), (60, 4), (61, 5)] [[], [0], [0, 1], [0, 1, 2], [0, 1, 2, 3], [0, 1, 2, 3, 4]] (rel [is (.int .i64 2),
   is (.bool false),
   is (.bool false),
   gd (false) true (fun _ _ _ => True),
   gd (false) true (fun _ _ _ => True),
   is (.bool false)])
      ⟨is_k, is_k, is_k, gdt_k, gdt_k, is_k, trivial⟩
      ⟨fun f s W l m p q r j => opv rfl rfl (by simp [go_sem, j.e 12 k23_12]) rfl,
  fun f s W l m p q r j => opv rfl rfl (by simp [go_sem, j.e 56 (m 0 rfl)]) rfl,
  fun f s W l m p q r j => opv rfl rfl (by simp [go_sem, j.e 57 (m 1 rfl)]) rfl,
  fun f s W l m p q r j => gno (j.says (d := 58) rfl rfl (m 2 rfl)),
  fun f s W l m p q r j => gno (j.says (d := 58) rfl rfl (m 2 rfl)),
  fun f s W l m p q r j => opk (c := false) rfl rfl (fun _ => by simp [go_sem, j.e 58 (m 2 rfl)]) (fun h => absurd h (by decide)), trivial⟩ ?_
     intro f24 s24 W24 hB24 g24 hg24
     have fB24 := below_trans fB23 hB24.below
     have z24 := hB24.below.size
     have b24_0 := blk_below b23_0 hB24.below
     have b24_1 := blk_below b23_1 hB24.below
     have b24_2 := blk_below b23_2 hB24.below
     have q102' := (q101'.below hB24.below (Nat.le_refl _))
     refine hK36 _ _ ?_
     have k24_3 := kt hg24 3 k23_3
     have k24_4 := kt hg24 4 k23_4
     have k24_5 := kt hg24 5 k23_5
     have k24_6 := kt hg24 6 k23_6
     have k24_9 := kt hg24 9 k23_9
     have k24_10 := kt hg24 10 k23_10
     have k24_68 := kt hg24 68 k23_68
     have k24_11 := kt hg24 11 k23_11
     have k24_12 := kt hg24 12 k23_12
     have k24_61 := kt hg24 61 (hB24.is 5)
     refine wp_cond_false ((fr_eval rfl).trans k24_61) ?_
     refine wp_exit ?_
     refine then_exit ?_
     refine then_exit ?_
     refine inBlock_at ?_
     refine hK14 _ _ ?_
     refine wp_seq_k fun K38 hK38 => ?_
     refine wp_seq_k fun K39 hK39 => ?_
     refine region_dk 2 [(69, 0), (70, 1)] [[], [0]] (rel [is (.int .i64 3),
   is (.bool true)])
      ⟨is_k, is_k, trivial⟩
      ⟨fun f s W l m p q r j => opv rfl rfl (by simp [go_sem, j.e 11 k24_11]) rfl,
  fun f s W l m p q r j => opv rfl rfl (by simp [go_sem, j.e 69 (m 0 rfl)]) rfl, trivial⟩ ?_
     intro f25 s25 W25 hB25 g25 hg25
     have fB25 := below_trans fB24 hB25.below
     have z25 := hB25.below.size
     have b25_0 := blk_below b24_0 hB25.below
     have b25_1 := blk_below b24_1 hB25.below
     have b25_2 := blk_below b24_2 hB25.below
     have q103' := (q102'.below hB25.below (Nat.le_refl _))
     refine hK39 _ _ ?_
     have k25_3 := kt hg25 3 k24_3
     have k25_4 := kt hg25 4 k24_4
     have k25_5 := kt hg25 5 k24_5
     have k25_6 := kt hg25 6 k24_6
     have k25_9 := kt hg25 9 k24_9
     have k25_10 := kt hg25 10 k24_10
     have k25_11 := kt hg25 11 k24_11
     have k25_70 := kt hg25 70 (hB25.is 1)
     refine wp_cond_true ((fr_eval rfl).trans k25_70) ?_
     refine wp_seq_k fun K41 hK41 => ?_
     refine region_dk 12 [(71, 0), (72, 1), (73, 2), (74, 3), (75, 4), (76, 5), (77, 6), (78, 7), (79, 8), (80, 9), (81, 10), (6, 11)] [[], [], [0, 1], [0, 1, 2], [0, 1, 2, 3], [0, 1, 2, 3, 4], [0, 1, 2, 3, 4, 5], [0, 1, 2, 3, 4, 5, 6], [0, 1, 2, 3, 4, 5, 6, 7], [0, 1, 2, 3, 4, 5, 6, 7, 8], [0, 1, 2, 3, 4, 5, 6, 7, 8, 9], [0, 1, 2, 3, 4, 5, 6, 7, 8, 9, 10]] (rel [is (.int .i64 E),
   is (.int .i64 3),
   is (.bool true),
   is (.bool true),
   gd (true) true (is (.slice (a70') (L.length) (c71'))),
   gd (true) true (is (.int .i64 ((L.length : Int)))),
   gd (true) true (is (.bool true)),
   is (.bool true),
   is (.bool true),
   gd (true) true (is (.bool true)),
   is (.bool true),
   is (.bool true)])
      ⟨is_k, is_k, is_k, is_k, gd_k (is_k), gd_k (is_k), gd_k (is_k), is_k, is_k, gd_k (is_k), is_k, is_k, trivial⟩
      ⟨fun f s W l m p q r j => opv rfl rfl (by simp [go_sem, j.e 10 k25_10]) rfl,
  fun f s W l m p q r j => opv rfl rfl (by simp [go_sem, j.e 11 k25_11]) rfl,
  fun f s W l m p q r j => opv rfl rfl (by simp [go_sem, j.e 71 (m 0 rfl), j.e 72 (m 1 rfl), hQ]) rfl,
  fun f s W l m p q r j => opv rfl rfl (by simp [go_sem, j.e 73 (m 2 rfl)]) rfl,
  fun f s W l m p q r j => gdo rfl rfl (j.says (d := 74) rfl rfl (m 3 rfl)) fun hgd0 => gv (by simp [go_sem, j.e 9 k25_9]) rfl,
  fun f s W l m p q r j => gdo rfl rfl (j.says (d := 74) rfl rfl (m 3 rfl)) fun hgd0 => gv (by simp [go_sem, j.e 75 ((m 4 rfl).1 hgd0)]) rfl,
  fun f s W l m p q r j => gdo rfl rfl (j.says (d := 74) rfl rfl (m 3 rfl)) fun hgd0 => gv (by simp [go_sem, j.e 76 ((m 5 rfl).1 hgd0), hL0]) rfl,
  fun f s W l m p q r j => opk (c := true) rfl rfl (fun h => absurd h (by decide)) (fun _ => by simp [go_sem, j.e 74 (m 3 rfl), j.e 77 ((m 6 rfl).1 rfl)]),
  fun f s W l m p q r j => opv rfl rfl (by simp [go_sem, j.e 78 (m 7 rfl)]) rfl,
  fun f s W l m p q r j => gdo rfl rfl (j.says (d := 79) rfl rfl (m 8 rfl)) fun hgd0 => gc (by simp [go_sem]) (known_any W),
  fun f s W l m p q r j => opk (c := true) rfl rfl (fun h => absurd h (by decide)) (fun _ => by simp [go_sem, j.e 79 (m 8 rfl), j.e 80 ((m 9 rfl).1 rfl)]),
  fun f s W l m p q r j => opv rfl rfl (by simp [go_sem, j.e 81 (m 10 rfl)]) rfl, trivial⟩ ?_
     intro f26 s26 W26 hB26 g26 hg26
     have fB26 := below_trans fB25 hB26.below
     have z26 := hB26.below.size
     have b26_0 := blk_below b25_0 hB26.below
     have b26_1 := blk_below b25_1 hB26.below
     have b26_2 := blk_below b25_2 hB26.below
     have q104' := (q103'.below hB26.below (Nat.le_refl _))
     refine hK41 _ _ ?_
     have k26_3 := kt hg26 3 k25_3
     have k26_4 := kt hg26 4 k25_4
     have k26_5 := kt hg26 5 k25_5
     have k26_9 := kt hg26 9 k25_9
     have k26_10 := kt hg26 10 k25_10
     have k26_6 := kt hg26 6 (hB26.is 11)
     refine wp_ret ?_
     refine then_ret ?_
     refine leave_one (N := 143) (v := .bool true) (.inr rfl) Try.results4 rfl k26_6 ?_
     exact ⟨rfl, fB26⟩
    ·
     have hc34' := hc34; try simp only [decide_eq_true_eq, decide_eq_false_iff_not, Bool.and_eq_true, Bool.or_eq_true, Bool.and_eq_false_iff, Bool.or_eq_false_iff, beq_iff_eq, bne_iff_ne, Bool.not_eq_true', Bool.not_eq_false', ne_eq, bne_eq_false_iff_eq, beq_eq_false_iff_ne] at hc34'
     have hs2 : isSpan (lo2, hi2) 1 10000 = true := by rw [hsp2]; simpa using hc34
     have hE' := (play_e5 hckb hckd hs1 hs2).symm.trans hE
     have hE0 : (E != 0) = false := by rw [bne_eq_false_iff_eq]; exact hE'.symm
     have hLP : L = playL b d (lo1, hi1) (lo2, hi2) := by rw [← hL, if_pos hE'.symm]
     have hL4' : L.length = 4 := by rw [hLP]; exact playL_len hckb hckd
     have hL4 : ((L.length : Int) != 4) = false := by rw [hL4']; rfl
     obtain ⟨ha1, ha2, ha3⟩ := isSpan_iff.1 hs1
     obtain ⟨hb1, hb2, hb3⟩ := isSpan_iff.1 hs2
     refine wp_skip ?_
     refine inBlock_normal ?_
     refine hK32 _ _ ?_
     refine region_dk 3 [(62, 0), (63, 1), (12, 2)] [[], [0], [0, 1]] (rel [is (.int .i64 1),
   is (.int .i64 2),
   is (.int .i64 2)])
      ⟨is_k, is_k, is_k, trivial⟩
      ⟨fun f s W l m p q r j => opv rfl rfl (by simp [go_sem, j.e 12 ((q 2 12 rfl rfl).trans k21_12)]) rfl,
  fun f s W l m p q r j => opv rfl rfl (by simp [go_sem, j.e 62 (m 0 rfl), IntWalk.i64_in (2) (by omega)]) rfl,
  fun f s W l m p q r j => opv rfl rfl (by simp [go_sem, j.e 63 (m 1 rfl)]) rfl, trivial⟩ ?_
     intro f27 s27 W27 hB27 g27 hg27
     have fB27 := below_trans fB21 hB27.below
     have z27 := hB27.below.size
     have b27_0 := blk_below b21_0 hB27.below
     have b27_1 := blk_below b21_1 hB27.below
     have b27_2 := blk_below b21_2 hB27.below
     have q105' := (q99'.below hB27.below (Nat.le_refl _))
     refine wpOps_end ?_
     have k27_3 := kt hg27 3 k21_3
     have k27_4 := kt hg27 4 k21_4
     have k27_5 := kt hg27 5 k21_5
     have k27_6 := kt hg27 6 k21_6
     have k27_9 := kt hg27 9 k21_9
     have k27_10 := kt hg27 10 k21_10
     have k27_11 := kt hg27 11 k21_11
     have k27_61 := kt hg27 61 k21_61
     have k27_68 := kt hg27 68 k21_68
     have k27_12 := kt hg27 12 (hB27.is 2)
     refine then_normal ?_
     rw [rounds_succ]
     refine wp_seq_k fun K42 hK42 => ?_
     refine wp_seq_k fun K43 hK43 => ?_
     refine region_dk 6 [(56, 0), (57, 1), (58, 2), (59, 3), (60, 4), (61, 5)] [[], [0], [0, 1], [0, 1, 2], [0, 1, 2, 3], [0, 1, 2, 3, 4]] (rel [is (.int .i64 2),
   is (.bool false),
   is (.bool false),
   gd (false) true (fun _ _ _ => True),
   gd (false) true (fun _ _ _ => True),
   is (.bool false)])
      ⟨is_k, is_k, is_k, gdt_k, gdt_k, is_k, trivial⟩
      ⟨fun f s W l m p q r j => opv rfl rfl (by simp [go_sem, j.e 12 k27_12]) rfl,
  fun f s W l m p q r j => opv rfl rfl (by simp [go_sem, j.e 56 (m 0 rfl)]) rfl,
  fun f s W l m p q r j => opv rfl rfl (by simp [go_sem, j.e 57 (m 1 rfl)]) rfl,
  fun f s W l m p q r j => gno (j.says (d := 58) rfl rfl (m 2 rfl)),
  fun f s W l m p q r j => gno (j.says (d := 58) rfl rfl (m 2 rfl)),
  fun f s W l m p q r j => opk (c := false) rfl rfl (fun _ => by simp [go_sem, j.e 58 (m 2 rfl)]) (fun h => absurd h (by decide)), trivial⟩ ?_
     intro f28 s28 W28 hB28 g28 hg28
     have fB28 := below_trans fB27 hB28.below
     have z28 := hB28.below.size
     have b28_0 := blk_below b27_0 hB28.below
     have b28_1 := blk_below b27_1 hB28.below
     have b28_2 := blk_below b27_2 hB28.below
     have q106' := (q105'.below hB28.below (Nat.le_refl _))
     refine hK43 _ _ ?_
     have k28_3 := kt hg28 3 k27_3
     have k28_4 := kt hg28 4 k27_4
     have k28_5 := kt hg28 5 k27_5
     have k28_6 := kt hg28 6 k27_6
     have k28_9 := kt hg28 9 k27_9
     have k28_10 := kt hg28 10 k27_10
     have k28_11 := kt hg28 11 k27_11
     have k28_68 := kt hg28 68 k27_68
     have k28_12 := kt hg28 12 k27_12
     have k28_61 := kt hg28 61 (hB28.is 5)
     refine wp_cond_false ((fr_eval rfl).trans k28_61) ?_
     refine wp_exit ?_
     refine then_exit ?_
     refine then_exit ?_
     refine inBlock_at ?_
     refine hK14 _ _ ?_
     refine wp_seq_k fun K45 hK45 => ?_
     refine wp_seq_k fun K46 hK46 => ?_
     refine region_dk 2 [(69, 0), (70, 1)] [[], [0]] (rel [is (.int .i64 xd),
   is (.bool (xd != 0))])
      ⟨is_k, is_k, trivial⟩
      ⟨fun f s W l m p q r j => opv rfl rfl (by simp [go_sem, j.e 11 k28_11]) rfl,
  fun f s W l m p q r j => opv rfl rfl (by simp [go_sem, j.e 69 (m 0 rfl)]) rfl, trivial⟩ ?_
     intro f29 s29 W29 hB29 g29 hg29
     have fB29 := below_trans fB28 hB29.below
     have z29 := hB29.below.size
     have b29_0 := blk_below b28_0 hB29.below
     have b29_1 := blk_below b28_1 hB29.below
     have b29_2 := blk_below b28_2 hB29.below
     have q107' := (q106'.below hB29.below (Nat.le_refl _))
     refine hK46 _ _ ?_
     have k29_3 := kt hg29 3 k28_3
     have k29_4 := kt hg29 4 k28_4
     have k29_5 := kt hg29 5 k28_5
     have k29_6 := kt hg29 6 k28_6
     have k29_9 := kt hg29 9 k28_9
     have k29_10 := kt hg29 10 k28_10
     have k29_11 := kt hg29 11 k28_11
     have k29_70 := kt hg29 70 (hB29.is 1)
     have hc47 : (fr 143 g29).eval (.tmp 70) = .bool false := ((fr_eval rfl).trans k29_70).trans (by rw [hnd])
     refine wp_cond_false (hc47) ?_
     refine wp_skip ?_
     refine hK45 _ _ ?_
     refine wp_seq_k fun K48 hK48 => ?_
     refine wp_seq_k fun K49 hK49 => ?_
     refine region_dk 7 [(82, 0), (83, 1), (84, 2), (85, 3), (86, 4), (87, 5), (88, 6)] [[], [0], [0, 1], [0, 1, 2], [0, 1, 2, 3], [0, 1, 2, 3, 4], [0, 1, 2, 3, 4, 5]] (rel [is (.int .i64 E),
   is (.bool false),
   is (.bool false),
   gd (false) false (is (.slice (a70') (L.length) (c71'))),
   gd (false) false (is (.int .i64 ((L.length : Int)))),
   gd (false) false (is (.bool false)),
   is (.bool false)])
      ⟨is_k, is_k, is_k, gd_k (is_k), gd_k (is_k), gd_k (is_k), is_k, trivial⟩
      ⟨fun f s W l m p q r j => opv rfl rfl (by simp [go_sem, j.e 10 k29_10]) rfl,
  fun f s W l m p q r j => opv rfl rfl (by simp [go_sem, j.e 82 (m 0 rfl), hE0]) rfl,
  fun f s W l m p q r j => opv rfl rfl (by simp [go_sem, j.e 83 (m 1 rfl)]) rfl,
  fun f s W l m p q r j => gdo rfl rfl (j.says (d := 84) rfl rfl (m 2 rfl)) fun hgd0 => gv (by simp [go_sem, j.e 9 k29_9]) rfl,
  fun f s W l m p q r j => gdo rfl rfl (j.says (d := 84) rfl rfl (m 2 rfl)) fun hgd0 => gv (by simp [go_sem, j.e 85 ((m 3 rfl).1 hgd0)]) rfl,
  fun f s W l m p q r j => gdo rfl rfl (j.says (d := 84) rfl rfl (m 2 rfl)) fun hgd0 => gv (by simp [go_sem, j.e 86 ((m 4 rfl).1 hgd0), hL4]) rfl,
  fun f s W l m p q r j => opk (c := false) rfl rfl (fun _ => by simp [go_sem, j.e 84 (m 2 rfl), j.e 87 ((m 5 rfl).1 rfl)]) (fun h => absurd h (by decide)), trivial⟩ ?_
     intro f30 s30 W30 hB30 g30 hg30
     have fB30 := below_trans fB29 hB30.below
     have z30 := hB30.below.size
     have b30_0 := blk_below b29_0 hB30.below
     have b30_1 := blk_below b29_1 hB30.below
     have b30_2 := blk_below b29_2 hB30.below
     have q108' := (q107'.below hB30.below (Nat.le_refl _))
     refine hK49 _ _ ?_
     have k30_3 := kt hg30 3 k29_3
     have k30_4 := kt hg30 4 k29_4
     have k30_5 := kt hg30 5 k29_5
     have k30_6 := kt hg30 6 k29_6
     have k30_9 := kt hg30 9 k29_9
     have k30_88 := kt hg30 88 (hB30.is 6)
     refine wp_cond_false ((fr_eval rfl).trans k30_88) ?_
     refine wp_skip ?_
     refine hK48 _ _ ?_
     refine wp_seq_k fun K51 hK51 => ?_
     refine wp_seq_k fun K52 hK52 => ?_
     refine region_dk 1 [(13, 0)] [[]] (rel [is (.int .i64 0)])
      ⟨is_k, trivial⟩
      ⟨fun f s W l m p q r j => opv rfl rfl (by simp [go_sem]) rfl, trivial⟩ ?_
     intro f31 s31 W31 hB31 g31 hg31
     have fB31 := below_trans fB30 hB31.below
     have z31 := hB31.below.size
     have b31_0 := blk_below b30_0 hB31.below
     have b31_1 := blk_below b30_1 hB31.below
     have b31_2 := blk_below b30_2 hB31.below
     have q109' := (q108'.below hB31.below (Nat.le_refl _))
     refine hK52 _ _ ?_
     have k31_3 := kt hg31 3 k30_3
     have k31_4 := kt hg31 4 k30_4
     have k31_5 := kt hg31 5 k30_5
     have k31_6 := kt hg31 6 k30_6
     have k31_9 := kt hg31 9 k30_9
     have k31_13 := kt hg31 13 (hB31.is 0)
     refine wp_block ?_
     refine wp_loop_n (fun m_ a_ W_ => ∃ g_ : Nat → Value, a_ = fr 143 g_ ∧ (∃ i : Nat, m_ = 4 - i ∧ g_ 3 = .pointer (some ⟨(s1 0), 0, none⟩) ∧ g_ 4 = .pointer (some ⟨(s1 1), 0, none⟩) ∧ g_ 5 = .pointer (some ⟨(s1 2), 0, none⟩) ∧ g_ 6 = .bool false ∧ g_ 9 = .slice (a70') (L.length) (c71') ∧ g_ 13 = .int .i64 ((i : Int)) ∧ Below w.heap.size w W_ ∧ W31.heap.size ≤ W_.heap.size ∧ W_.heap[(s1 0)]? = some (.cells #[.int .i64 b.tab, .slice (a1) (b.panels.length) (c1), .int .i64 b.height, .slice (a2) (b.top.length) (c2), .slice (a3) (b.bottom.length) (c3), .int .i64 b.slot, .bool b.isOpen] 24 (0, 0)) ∧ W_.heap[(s1 1)]? = some (.cells #[.int .i64 d.tab, .slice (x1) (d.panels.length) (y1), .int .i64 d.height, .slice (x2) (d.top.length) (y2), .slice (x3) (d.bottom.length) (y3), .int .i64 d.slot, .bool d.isOpen] 24 (0, 0)) ∧ W_.heap[(s1 2)]? = some (.cells #[.int .i64 lo1, .int .i64 hi1, .int .i64 lo2, .int .i64 hi2] 38 (0, 0)) ∧ Pp W_ a70' L.length c71' L ∧ (i ≤ 4))) ⟨_, g31, rfl, 0, rfl, k31_3, k31_4, k31_5, k31_6, k31_9, k31_13.trans (by rfl), fB31, Nat.le_refl _, b31_0, b31_1, b31_2, q109', (by omega)⟩ ?_
     rintro _ _ W_110 ⟨g_110, rfl, i, rfl, k_110_3, k_110_4, k_110_5, k_110_6, k_110_9, k_110_13, fB_110, z_110, b_110_0, b_110_1, b_110_2, q111', lp0⟩
     refine wp_seq_k fun K53 hK53 => ?_
     refine wp_seq_k fun K54 hK54 => ?_
     refine region_dk 2 [(89, 0), (90, 1)] [[], [0]] (rel [is (.int .i64 ((i : Int))),
   is (.bool (decide ((i : Int) < 4)))])
      ⟨is_k, is_k, trivial⟩
      ⟨fun f s W l m p q r j => opv rfl rfl (by simp [go_sem, j.e 13 k_110_13]) rfl,
  fun f s W l m p q r j => opv rfl rfl (by simp [go_sem, j.e 89 (m 0 rfl)]) rfl, trivial⟩ ?_
     intro f32 s32 W32 hB32 g32 hg32
     have fB32 := below_trans fB_110 hB32.below
     have z32 := hB32.below.size
     have b32_0 := blk_below b_110_0 hB32.below
     have b32_1 := blk_below b_110_1 hB32.below
     have b32_2 := blk_below b_110_2 hB32.below
     have q112' := (q111'.below hB32.below (Nat.le_refl _))
     refine hK54 _ _ ?_
     have k32_3 := kt hg32 3 k_110_3
     have k32_4 := kt hg32 4 k_110_4
     have k32_5 := kt hg32 5 k_110_5
     have k32_6 := kt hg32 6 k_110_6
     have k32_9 := kt hg32 9 k_110_9
     have k32_13 := kt hg32 13 k_110_13
     have k32_90 := kt hg32 90 (hB32.is 1)
     refine wp_cond_split (t := decide ((i : Int) < 4)) ((fr_eval rfl).trans k32_90) (fun hc55 => ?_) (fun hc55 => ?_)
     ·
      have hc55' := hc55; try simp only [decide_eq_true_eq, decide_eq_false_iff_not, Bool.and_eq_true, Bool.or_eq_true, Bool.and_eq_false_iff, Bool.or_eq_false_iff, beq_iff_eq, bne_iff_ne, Bool.not_eq_true', Bool.not_eq_false', ne_eq, bne_eq_false_iff_eq, beq_eq_false_iff_ne] at hc55'
      have hi : i < 4 := by omega
      have li4 := not_le4 hi
      have pb := panels_in hckb hi
      have pd := panels_in hckd hi
      obtain ⟨bq, oq, hab, hbl, -⟩ := q112'.at (by omega)
      have wblo1 : panR b i lo1 = 1000 * b.panels.getD i 0 - lo1 := rfl
      have wbhi1 : panR b i hi1 = 1000 * b.panels.getD i 0 - hi1 := rfl
      have wdlo2 : panR d i lo2 = 1000 * d.panels.getD i 0 - lo2 := rfl
      have wdhi2 : panR d i hi2 = 1000 * d.panels.getD i 0 - hi2 := rfl
      have wb0 : panR b i 0 = 1000 * b.panels.getD i 0 - 0 := rfl
      have wd0 : panR d i 0 = 1000 * d.panels.getD i 0 - 0 := rfl
      refine wp_skip ?_
      refine hK53 _ _ ?_
      refine wp_seq_k fun K56 hK56 => ?_
      refine wp_block ?_
      refine wp_seq_k fun K57 hK57 => ?_
      refine region_dk 2 [(93, 0), (14, 1)] [[], [], [0, 1]] (rel [is (.agg #[.int .i64 1099511627776, .int .i64 (-1099511627776)]),
   bx 1 #[.int .i64 0, .int .i64 0] 37])
       ⟨is_k, bx_k, trivial⟩
       ⟨fun f s W l m p q r j => opc rfl rfl (by simp [go_sem]) (span_any (1099511627776) (-1099511627776) W),
  fun f s W l m p q r j => opb rfl rfl (by simp [go_sem]), trivial⟩ ?_
      intro f33 s33 W33 hB33 g33 hg33
      have fB33 := below_trans fB32 hB33.below
      have z33 := hB33.below.size
      have b33_0 := blk_below b32_0 hB33.below
      have b33_1 := blk_below b32_1 hB33.below
      have b33_2 := blk_below b32_2 hB33.below
      have q113' := (q112'.below hB33.below (Nat.le_refl _))
      obtain ⟨r33_1, br33_1⟩ := hB33.is 1
      have lr33_1 := hB33.lr 1 br33_1
      have k33_3 := kt hg33 3 k32_3
      have k33_4 := kt hg33 4 k32_4
      have k33_5 := kt hg33 5 k32_5
      have k33_6 := kt hg33 6 k32_6
      have k33_9 := kt hg33 9 k32_9
      have k33_13 := kt hg33 13 k32_13
      have k33_93 := kt hg33 93 (hB33.is 0)
      have k33_14 := kt hg33 14 r33_1
      obtain ⟨W34, hW34⟩ : ∃ W', W' = W33.setRow (s33 1) #[.int .i64 1099511627776, .int .i64 (-1099511627776)] := ⟨_, rfl⟩
      refine tail_skip (o := _) rfl ⟨rfl, rfl⟩ (run_seg hW34 (fr_ev k33_14) (fr_ev k33_93) br33_1 rfl rfl rfl rfl) ?_
      obtain ⟨fB34, nb34, ot34, z34⟩ := seg_facts hW34 fB33 br33_1 (by omega)
      clear hW34
      have b34_0 := ot34 _ _ (by omega) b33_0
      have b34_1 := ot34 _ _ (by omega) b33_1
      have b34_2 := ot34 _ _ (by omega) b33_2
      have q114' := (q113'.otherA ot34 (fun g o e => by rw [hab] at e; cases e; omega) z34)
      refine wpOps_end ?_
      refine hK57 _ _ ?_
      refine wp_seq_k fun K58 hK58 => ?_
      refine wp_seq_k fun K59 hK59 => ?_
      refine region_dk 1 [(15, 0)] [[]] (rel [is (.int .i64 0)])
       ⟨is_k, trivial⟩
       ⟨fun f s W l m p q r j => opv rfl rfl (by simp [go_sem]) rfl, trivial⟩ ?_
      intro f35 s35 W35 hB35 g35 hg35
      have fB35 := below_trans fB34 hB35.below
      have z35 := hB35.below.size
      have b35_0 := blk_below b34_0 hB35.below
      have b35_1 := blk_below b34_1 hB35.below
      have b35_2 := blk_below b34_2 hB35.below
      have b35_3 := blk_below nb34 hB35.below
      have q115' := (q114'.below hB35.below (Nat.le_refl _))
      refine hK59 _ _ ?_
      have k35_3 := kt hg35 3 k33_3
      have k35_4 := kt hg35 4 k33_4
      have k35_5 := kt hg35 5 k33_5
      have k35_6 := kt hg35 6 k33_6
      have k35_9 := kt hg35 9 k33_9
      have k35_13 := kt hg35 13 k33_13
      have k35_14 := kt hg35 14 k33_14
      have k35_15 := kt hg35 15 (hB35.is 0)
      refine wp_block ?_
      refine wp_loop_rounds 5 ?_
      rw [rounds_succ]
      refine wp_seq_k fun K60 hK60 => ?_
      refine wp_seq_k fun K61 hK61 => ?_
      refine region_dk 2 [(94, 0), (95, 1)] [[], [0]] (rel [is (.int .i64 0),
   is (.bool true)])
       ⟨is_k, is_k, trivial⟩
       ⟨fun f s W l m p q r j => opv rfl rfl (by simp [go_sem, j.e 15 k35_15]) rfl,
  fun f s W l m p q r j => opv rfl rfl (by simp [go_sem, j.e 94 (m 0 rfl)]) rfl, trivial⟩ ?_
      intro f36 s36 W36 hB36 g36 hg36
      have fB36 := below_trans fB35 hB36.below
      have z36 := hB36.below.size
      have b36_0 := blk_below b35_0 hB36.below
      have b36_1 := blk_below b35_1 hB36.below
      have b36_2 := blk_below b35_2 hB36.below
      have b36_3 := blk_below b35_3 hB36.below
      have q116' := (q115'.below hB36.below (Nat.le_refl _))
      refine hK61 _ _ ?_
      have k36_3 := kt hg36 3 k35_3
      have k36_4 := kt hg36 4 k35_4
      have k36_5 := kt hg36 5 k35_5
      have k36_6 := kt hg36 6 k35_6
      have k36_9 := kt hg36 9 k35_9
      have k36_13 := kt hg36 13 k35_13
      have k36_14 := kt hg36 14 k35_14
      have k36_15 := kt hg36 15 k35_15
      have k36_95 := kt hg36 95 (hB36.is 1)
      refine wp_cond_true ((fr_eval rfl).trans k36_95) ?_
      refine wp_skip ?_
      refine hK60 _ _ ?_
      refine wp_seq_k fun K63 hK63 => ?_
      refine wp_block ?_
      refine wp_seq_k fun K64 hK64 => ?_
      refine region_dk 8 [(98, 0), (99, 1), (100, 2), (101, 3), (102, 4), (103, 5), (16, 6), (17, 7)] [[], [0], [0, 1], [], [3], [3, 4], [0, 1, 2], [0, 1, 2, 3, 4, 5, 6]] (rel [is (.pointer (some ⟨(s1 2), 0, none⟩)),
   is (.pointer (some ⟨(s1 2), 0, none⟩)),
   is (.int .i64 lo1),
   is (.pointer (some ⟨(s1 2), 2, none⟩)),
   is (.pointer (some ⟨(s1 2), 2, none⟩)),
   is (.int .i64 lo2),
   is (.int .i64 lo1),
   is (.int .i64 lo2)])
       ⟨is_k, is_k, is_k, is_k, is_k, is_k, is_k, is_k, trivial⟩
       ⟨fun f s W l m p q r j => opv rfl rfl (by simp [go_sem, j.e 5 k36_5]) rfl,
  fun f s W l m p q r j => opv rfl rfl (by simp [go_sem, j.e 98 (m 0 rfl)]) rfl,
  fun f s W l m p q r j => opv rfl rfl (by simp [go_sem, j.e 99 (m 1 rfl), Joins.cell_of_block (blk_below b36_2 l) 0]) rfl,
  fun f s W l m p q r j => opv rfl rfl (by simp [go_sem, j.e 5 k36_5]) rfl,
  fun f s W l m p q r j => opv rfl rfl (by simp [go_sem, j.e 101 (m 3 rfl)]) rfl,
  fun f s W l m p q r j => opv rfl rfl (by simp [go_sem, j.e 102 (m 4 rfl), Joins.cell_of_block (blk_below b36_2 l) 2]) rfl,
  fun f s W l m p q r j => opv rfl rfl (by simp [go_sem, j.e 100 (m 2 rfl)]) rfl,
  fun f s W l m p q r j => opv rfl rfl (by simp [go_sem, j.e 103 (m 5 rfl)]) rfl, trivial⟩ ?_
      intro f37 s37 W37 hB37 g37 hg37
      have fB37 := below_trans fB36 hB37.below
      have z37 := hB37.below.size
      have b37_0 := blk_below b36_0 hB37.below
      have b37_1 := blk_below b36_1 hB37.below
      have b37_2 := blk_below b36_2 hB37.below
      have b37_3 := blk_below b36_3 hB37.below
      have q117' := (q116'.below hB37.below (Nat.le_refl _))
      refine hK64 _ _ ?_
      have k37_3 := kt hg37 3 k36_3
      have k37_4 := kt hg37 4 k36_4
      have k37_5 := kt hg37 5 k36_5
      have k37_6 := kt hg37 6 k36_6
      have k37_9 := kt hg37 9 k36_9
      have k37_13 := kt hg37 13 k36_13
      have k37_14 := kt hg37 14 k36_14
      have k37_15 := kt hg37 15 k36_15
      have k37_95 := kt hg37 95 k36_95
      have k37_16 := kt hg37 16 (hB37.is 6)
      have k37_17 := kt hg37 17 (hB37.is 7)
      refine wp_seq_k fun K65 hK65 => ?_
      refine wp_seq_k fun K66 hK66 => ?_
      refine region_dk 3 [(104, 0), (105, 1), (106, 2)] [[], [0], [0, 1]] (rel [is (.int .i64 0),
   is (.int .i64 0),
   is (.bool false)])
       ⟨is_k, is_k, is_k, trivial⟩
       ⟨fun f s W l m p q r j => opv rfl rfl (by simp [go_sem, j.e 15 k37_15]) rfl,
  fun f s W l m p q r j => opv rfl rfl (by simp [go_sem, j.e 104 (m 0 rfl)]) rfl,
  fun f s W l m p q r j => opv rfl rfl (by simp [go_sem, j.e 105 (m 1 rfl)]) rfl, trivial⟩ ?_
      intro f38 s38 W38 hB38 g38 hg38
      have fB38 := below_trans fB37 hB38.below
      have z38 := hB38.below.size
      have b38_0 := blk_below b37_0 hB38.below
      have b38_1 := blk_below b37_1 hB38.below
      have b38_2 := blk_below b37_2 hB38.below
      have b38_3 := blk_below b37_3 hB38.below
      have q118' := (q117'.below hB38.below (Nat.le_refl _))
      refine hK66 _ _ ?_
      have k38_3 := kt hg38 3 k37_3
      have k38_4 := kt hg38 4 k37_4
      have k38_5 := kt hg38 5 k37_5
      have k38_6 := kt hg38 6 k37_6
      have k38_9 := kt hg38 9 k37_9
      have k38_13 := kt hg38 13 k37_13
      have k38_14 := kt hg38 14 k37_14
      have k38_15 := kt hg38 15 k37_15
      have k38_95 := kt hg38 95 k37_95
      have k38_16 := kt hg38 16 k37_16
      have k38_17 := kt hg38 17 k37_17
      have k38_106 := kt hg38 106 (hB38.is 2)
      refine wp_cond_false ((fr_eval rfl).trans k38_106) ?_
      refine wp_skip ?_
      refine hK65 _ _ ?_
      refine wp_seq_k fun K68 hK68 => ?_
      refine wp_seq_k fun K69 hK69 => ?_
      refine region_dk 2 [(110, 0), (111, 1)] [[], [0]] (rel [is (.int .i64 0),
   is (.bool false)])
       ⟨is_k, is_k, trivial⟩
       ⟨fun f s W l m p q r j => opv rfl rfl (by simp [go_sem, j.e 15 k38_15]) rfl,
  fun f s W l m p q r j => opv rfl rfl (by simp [go_sem, j.e 110 (m 0 rfl)]) rfl, trivial⟩ ?_
      intro f39 s39 W39 hB39 g39 hg39
      have fB39 := below_trans fB38 hB39.below
      have z39 := hB39.below.size
      have b39_0 := blk_below b38_0 hB39.below
      have b39_1 := blk_below b38_1 hB39.below
      have b39_2 := blk_below b38_2 hB39.below
      have b39_3 := blk_below b38_3 hB39.below
      have q119' := (q118'.below hB39.below (Nat.le_refl _))
      refine hK69 _ _ ?_
      have k39_3 := kt hg39 3 k38_3
      have k39_4 := kt hg39 4 k38_4
      have k39_5 := kt hg39 5 k38_5
      have k39_6 := kt hg39 6 k38_6
      have k39_9 := kt hg39 9 k38_9
      have k39_13 := kt hg39 13 k38_13
      have k39_14 := kt hg39 14 k38_14
      have k39_15 := kt hg39 15 k38_15
      have k39_95 := kt hg39 95 k38_95
      have k39_16 := kt hg39 16 k38_16
      have k39_17 := kt hg39 17 k38_17
      have k39_106 := kt hg39 106 k38_106
      have k39_111 := kt hg39 111 (hB39.is 1)
      refine wp_cond_false ((fr_eval rfl).trans k39_111) ?_
      refine wp_skip ?_
      refine hK68 _ _ ?_
      refine wp_seq_k fun K71 hK71 => ?_
      refine region_dk 13 [(115, 0), (116, 1), (117, 2), (118, 3), (119, 4), (120, 5), (121, 6), (122, 7), (123, 8), (124, 9), (125, 10), (126, 11), (18, 12)] [[], [], [], [0, 1, 2], [], [], [], [0, 1, 2, 3, 4, 5, 6], [], [8], [0, 1, 2, 3, 4, 5, 6, 7, 8, 9], [0, 1, 2, 3, 4, 5, 6, 7, 8, 9, 10], [0, 1, 2, 3, 4, 5, 6, 7, 8, 9, 10, 11]] (rel [is (.agg #[.int .i64 b.tab, .slice (a1) (b.panels.length) (c1), .int .i64 b.height, .slice (a2) (b.top.length) (c2), .slice (a3) (b.bottom.length) (c3), .int .i64 b.slot, .bool b.isOpen]),
   is (.int .i64 ((i : Int))),
   is (.int .i64 lo1),
   is (.int .i64 ((panR b i lo1))),
   is (.agg #[.int .i64 d.tab, .slice (x1) (d.panels.length) (y1), .int .i64 d.height, .slice (x2) (d.top.length) (y2), .slice (x3) (d.bottom.length) (y3), .int .i64 d.slot, .bool d.isOpen]),
   is (.int .i64 ((i : Int))),
   is (.int .i64 lo2),
   is (.int .i64 ((panR d i lo2))),
   is (.int .i64 lo2),
   is (.int .i64 (2 * lo2)),
   is (.int .i64 ((panR d i lo2) + (2 * lo2))),
   is (.int .i64 ((panR b i lo1) - ((panR d i lo2) + (2 * lo2)))),
   is (.int .i64 ((panR b i lo1) - ((panR d i lo2) + (2 * lo2))))])
       ⟨is_k, is_k, is_k, is_k, is_k, is_k, is_k, is_k, is_k, is_k, is_k, is_k, is_k, trivial⟩
       ⟨fun f s W l m p q r j => opv rfl rfl (by simp [go_sem, j.e 3 k39_3, Joins.cell_of_block (blk_below b39_0 l) 0, Joins.cell_of_block (blk_below b39_0 l) 1, Joins.cell_of_block (blk_below b39_0 l) 2, Joins.cell_of_block (blk_below b39_0 l) 3, Joins.cell_of_block (blk_below b39_0 l) 4, Joins.cell_of_block (blk_below b39_0 l) 5, Joins.cell_of_block (blk_below b39_0 l) 6]) rfl,
  fun f s W l m p q r j => opv rfl rfl (by simp [go_sem, j.e 13 k39_13]) rfl,
  fun f s W l m p q r j => opv rfl rfl (by simp [go_sem, j.e 16 k39_16]) rfl,
  fun f s W l m p q r j => by have x := below_trans fB39 l; exact opc (args := #[.agg #[.int .i64 b.tab, .slice (a1) (b.panels.length) (c1), .int .i64 b.height, .slice (a2) (b.top.length) (c2), .slice (a3) (b.bottom.length) (c3), .int .i64 b.slot, .bool b.isOpen], .int .i64 ((i : Int)), .int .i64 lo1]) rfl rfl (by simp [go_sem, j.e 115 (m 0 rfl), j.e 116 (m 1 rfl), j.e 117 (m 2 rfl)]) (panR_any a1 a2 a3 c1 c2 c3 b i (i : Int) _ lo1 W (h1.below x (Nat.le_refl _)) (h2.below x (Nat.le_refl _)) (h3.below x (Nat.le_refl _)) rfl pb.1 rfl (by omega) (by omega) (by omega) (by omega)),
  fun f s W l m p q r j => opv rfl rfl (by simp [go_sem, j.e 4 k39_4, Joins.cell_of_block (blk_below b39_1 l) 0, Joins.cell_of_block (blk_below b39_1 l) 1, Joins.cell_of_block (blk_below b39_1 l) 2, Joins.cell_of_block (blk_below b39_1 l) 3, Joins.cell_of_block (blk_below b39_1 l) 4, Joins.cell_of_block (blk_below b39_1 l) 5, Joins.cell_of_block (blk_below b39_1 l) 6]) rfl,
  fun f s W l m p q r j => opv rfl rfl (by simp [go_sem, j.e 13 k39_13]) rfl,
  fun f s W l m p q r j => opv rfl rfl (by simp [go_sem, j.e 17 k39_17]) rfl,
  fun f s W l m p q r j => by have x := below_trans fB39 l; exact opc (args := #[.agg #[.int .i64 d.tab, .slice (x1) (d.panels.length) (y1), .int .i64 d.height, .slice (x2) (d.top.length) (y2), .slice (x3) (d.bottom.length) (y3), .int .i64 d.slot, .bool d.isOpen], .int .i64 ((i : Int)), .int .i64 lo2]) rfl rfl (by simp [go_sem, j.e 119 (m 4 rfl), j.e 120 (m 5 rfl), j.e 121 (m 6 rfl)]) (panR_any x1 x2 x3 y1 y2 y3 d i (i : Int) _ lo2 W (m1.below x (Nat.le_refl _)) (m2.below x (Nat.le_refl _)) (m3.below x (Nat.le_refl _)) rfl pd.1 rfl (by omega) (by omega) (by omega) (by omega)),
  fun f s W l m p q r j => opv rfl rfl (by simp [go_sem, j.e 17 k39_17]) rfl,
  fun f s W l m p q r j => opv rfl rfl (by simp [go_sem, j.e 123 (m 8 rfl), IntWalk.i64_in (2 * lo2) (by omega)]) rfl,
  fun f s W l m p q r j => opv rfl rfl (by simp [go_sem, j.e 122 (m 7 rfl), j.e 124 (m 9 rfl), IntWalk.i64_in ((panR d i lo2) + (2 * lo2)) (by omega)]) rfl,
  fun f s W l m p q r j => opv rfl rfl (by simp [go_sem, j.e 118 (m 3 rfl), j.e 125 (m 10 rfl), IntWalk.i64_in ((panR b i lo1) - ((panR d i lo2) + (2 * lo2))) (by omega)]) rfl,
  fun f s W l m p q r j => opv rfl rfl (by simp [go_sem, j.e 126 (m 11 rfl)]) rfl, trivial⟩ ?_
      intro f40 s40 W40 hB40 g40 hg40
      have fB40 := below_trans fB39 hB40.below
      have z40 := hB40.below.size
      have b40_0 := blk_below b39_0 hB40.below
      have b40_1 := blk_below b39_1 hB40.below
      have b40_2 := blk_below b39_2 hB40.below
      have b40_3 := blk_below b39_3 hB40.below
      have q120' := (q119'.below hB40.below (Nat.le_refl _))
      refine hK71 _ _ ?_
      have k40_3 := kt hg40 3 k39_3
      have k40_4 := kt hg40 4 k39_4
      have k40_5 := kt hg40 5 k39_5
      have k40_6 := kt hg40 6 k39_6
      have k40_9 := kt hg40 9 k39_9
      have k40_13 := kt hg40 13 k39_13
      have k40_14 := kt hg40 14 k39_14
      have k40_15 := kt hg40 15 k39_15
      have k40_95 := kt hg40 95 k39_95
      have k40_16 := kt hg40 16 k39_16
      have k40_17 := kt hg40 17 k39_17
      have k40_106 := kt hg40 106 k39_106
      have k40_111 := kt hg40 111 k39_111
      have k40_18 := kt hg40 18 (hB40.is 12)
      refine region_dk 9 [(127, 0), (128, 1), (129, 2), (130, 3), (131, 4), (132, 5), (133, 6), (134, 7), (135, 8)] [[], [0], [], [0, 1, 2], [], [4], [], [4, 5, 6], [0, 1, 2, 3, 4, 5, 6, 7], [0, 1, 2, 3, 4, 5, 6, 7, 8]] (rel [is (.pointer (some ⟨(s33 1), 0, none⟩)),
   is (.int .i64 1099511627776),
   is (.int .i64 ((panR b i lo1) - ((panR d i lo2) + (2 * lo2)))),
   is (.int .i64 (min 1099511627776 ((panR b i lo1) - ((panR d i lo2) + (2 * lo2))))),
   is (.pointer (some ⟨(s33 1), 1, none⟩)),
   is (.int .i64 (-1099511627776)),
   is (.int .i64 ((panR b i lo1) - ((panR d i lo2) + (2 * lo2)))),
   is (.int .i64 (max (-1099511627776) ((panR b i lo1) - ((panR d i lo2) + (2 * lo2))))),
   is (.agg #[.int .i64 (min 1099511627776 ((panR b i lo1) - ((panR d i lo2) + (2 * lo2)))), .int .i64 (max (-1099511627776) ((panR b i lo1) - ((panR d i lo2) + (2 * lo2))))])])
       ⟨is_k, is_k, is_k, is_k, is_k, is_k, is_k, is_k, is_k, trivial⟩
       ⟨fun f s W l m p q r j => opv rfl rfl (by simp [go_sem, j.e 14 k40_14]) rfl,
  fun f s W l m p q r j => opv rfl rfl (by simp [go_sem, j.e 127 (m 0 rfl), Joins.cell_of_block (blk_below b40_3 l) 0]) rfl,
  fun f s W l m p q r j => opv rfl rfl (by simp [go_sem, j.e 18 k40_18]) rfl,
  fun f s W l m p q r j => opv rfl rfl (by simp [go_sem, j.e 128 (m 1 rfl), j.e 129 (m 2 rfl)]) rfl,
  fun f s W l m p q r j => opv rfl rfl (by simp [go_sem, j.e 14 k40_14]) rfl,
  fun f s W l m p q r j => opv rfl rfl (by simp [go_sem, j.e 131 (m 4 rfl), Joins.cell_of_block (blk_below b40_3 l) 1]) rfl,
  fun f s W l m p q r j => opv rfl rfl (by simp [go_sem, j.e 18 k40_18]) rfl,
  fun f s W l m p q r j => opv rfl rfl (by simp [go_sem, j.e 132 (m 5 rfl), j.e 133 (m 6 rfl)]) rfl,
  fun f s W l m p q r j => opc rfl rfl (by simp [go_sem, j.e 130 (m 3 rfl), j.e 134 (m 7 rfl)]) (span_any (min 1099511627776 ((panR b i lo1) - ((panR d i lo2) + (2 * lo2)))) (max (-1099511627776) ((panR b i lo1) - ((panR d i lo2) + (2 * lo2)))) W), trivial⟩ ?_
      intro f41 s41 W41 hB41 g41 hg41
      have fB41 := below_trans fB40 hB41.below
      have z41 := hB41.below.size
      have b41_0 := blk_below b40_0 hB41.below
      have b41_1 := blk_below b40_1 hB41.below
      have b41_2 := blk_below b40_2 hB41.below
      have b41_3 := blk_below b40_3 hB41.below
      have q121' := (q120'.below hB41.below (Nat.le_refl _))
      have k41_3 := kt hg41 3 k40_3
      have k41_4 := kt hg41 4 k40_4
      have k41_5 := kt hg41 5 k40_5
      have k41_6 := kt hg41 6 k40_6
      have k41_9 := kt hg41 9 k40_9
      have k41_13 := kt hg41 13 k40_13
      have k41_14 := kt hg41 14 k40_14
      have k41_15 := kt hg41 15 k40_15
      have k41_95 := kt hg41 95 k40_95
      have k41_16 := kt hg41 16 k40_16
      have k41_17 := kt hg41 17 k40_17
      have k41_106 := kt hg41 106 k40_106
      have k41_111 := kt hg41 111 k40_111
      have k41_18 := kt hg41 18 k40_18
      have k41_135 := kt hg41 135 (hB41.is 8)
      obtain ⟨W42, hW42⟩ : ∃ W', W' = W41.setRow (s33 1) #[.int .i64 (min 1099511627776 ((panR b i lo1) - ((panR d i lo2) + (2 * lo2)))), .int .i64 (max (-1099511627776) ((panR b i lo1) - ((panR d i lo2) + (2 * lo2))))] := ⟨_, rfl⟩
      refine tail_skip (o := _) rfl ⟨rfl, rfl⟩ (run_seg hW42 (fr_ev k41_14) (fr_ev k41_135) b41_3 rfl rfl rfl rfl) ?_
      obtain ⟨fB42, nb42, ot42, z42⟩ := seg_facts hW42 fB41 b41_3 (by omega)
      clear hW42
      have b42_0 := ot42 _ _ (by omega) b41_0
      have b42_1 := ot42 _ _ (by omega) b41_1
      have b42_2 := ot42 _ _ (by omega) b41_2
      have q122' := (q121'.otherA ot42 (fun g o e => by rw [hab] at e; cases e; omega) z42)
      refine wpOps_end ?_
      refine inBlock_normal ?_
      refine hK63 _ _ ?_
      refine region_dk 3 [(96, 0), (97, 1), (15, 2)] [[], [0], [0, 1]] (rel [is (.int .i64 0),
   is (.int .i64 1),
   is (.int .i64 1)])
       ⟨is_k, is_k, is_k, trivial⟩
       ⟨fun f s W l m p q r j => opv rfl rfl (by simp [go_sem, j.e 15 ((q 2 15 rfl rfl).trans k41_15)]) rfl,
  fun f s W l m p q r j => opv rfl rfl (by simp [go_sem, j.e 96 (m 0 rfl), IntWalk.i64_in (1) (by omega)]) rfl,
  fun f s W l m p q r j => opv rfl rfl (by simp [go_sem, j.e 97 (m 1 rfl)]) rfl, trivial⟩ ?_
      intro f43 s43 W43 hB43 g43 hg43
      have fB43 := below_trans fB42 hB43.below
      have z43 := hB43.below.size
      have b43_0 := blk_below b42_0 hB43.below
      have b43_1 := blk_below b42_1 hB43.below
      have b43_2 := blk_below b42_2 hB43.below
      have b43_3 := blk_below nb42 hB43.below
      have q123' := (q122'.below hB43.below (Nat.le_refl _))
      refine wpOps_end ?_
      have k43_3 := kt hg43 3 k41_3
      have k43_4 := kt hg43 4 k41_4
      have k43_5 := kt hg43 5 k41_5
      have k43_6 := kt hg43 6 k41_6
      have k43_9 := kt hg43 9 k41_9
      have k43_13 := kt hg43 13 k41_13
      have k43_14 := kt hg43 14 k41_14
      have k43_95 := kt hg43 95 k41_95
      have k43_16 := kt hg43 16 k41_16
      have k43_17 := kt hg43 17 k41_17
      have k43_106 := kt hg43 106 k41_106
      have k43_111 := kt hg43 111 k41_111
      have k43_18 := kt hg43 18 k41_18
      have k43_135 := kt hg43 135 k41_135
      have k43_15 := kt hg43 15 (hB43.is 2)
      refine then_normal ?_
      rw [rounds_succ]
      refine wp_seq_k fun K72 hK72 => ?_
      refine wp_seq_k fun K73 hK73 => ?_
      refine region_dk 2 [(94, 0), (95, 1)] [[], [0]] (rel [is (.int .i64 1),
   is (.bool true)])
       ⟨is_k, is_k, trivial⟩
       ⟨fun f s W l m p q r j => opv rfl rfl (by simp [go_sem, j.e 15 k43_15]) rfl,
  fun f s W l m p q r j => opv rfl rfl (by simp [go_sem, j.e 94 (m 0 rfl)]) rfl, trivial⟩ ?_
      intro f44 s44 W44 hB44 g44 hg44
      have fB44 := below_trans fB43 hB44.below
      have z44 := hB44.below.size
      have b44_0 := blk_below b43_0 hB44.below
      have b44_1 := blk_below b43_1 hB44.below
      have b44_2 := blk_below b43_2 hB44.below
      have b44_3 := blk_below b43_3 hB44.below
      have q124' := (q123'.below hB44.below (Nat.le_refl _))
      refine hK73 _ _ ?_
      have k44_3 := kt hg44 3 k43_3
      have k44_4 := kt hg44 4 k43_4
      have k44_5 := kt hg44 5 k43_5
      have k44_6 := kt hg44 6 k43_6
      have k44_9 := kt hg44 9 k43_9
      have k44_13 := kt hg44 13 k43_13
      have k44_14 := kt hg44 14 k43_14
      have k44_16 := kt hg44 16 k43_16
      have k44_17 := kt hg44 17 k43_17
      have k44_106 := kt hg44 106 k43_106
      have k44_111 := kt hg44 111 k43_111
      have k44_18 := kt hg44 18 k43_18
      have k44_135 := kt hg44 135 k43_135
      have k44_15 := kt hg44 15 k43_15
      have k44_95 := kt hg44 95 (hB44.is 1)
      refine wp_cond_true ((fr_eval rfl).trans k44_95) ?_
      refine wp_skip ?_
      refine hK72 _ _ ?_
      refine wp_seq_k fun K75 hK75 => ?_
      refine wp_block ?_
      refine wp_seq_k fun K76 hK76 => ?_
      refine region_dk 8 [(98, 0), (99, 1), (100, 2), (101, 3), (102, 4), (103, 5), (16, 6), (17, 7)] [[], [0], [0, 1], [], [3], [3, 4], [0, 1, 2], [0, 1, 2, 3, 4, 5, 6]] (rel [is (.pointer (some ⟨(s1 2), 0, none⟩)),
   is (.pointer (some ⟨(s1 2), 0, none⟩)),
   is (.int .i64 lo1),
   is (.pointer (some ⟨(s1 2), 2, none⟩)),
   is (.pointer (some ⟨(s1 2), 2, none⟩)),
   is (.int .i64 lo2),
   is (.int .i64 lo1),
   is (.int .i64 lo2)])
       ⟨is_k, is_k, is_k, is_k, is_k, is_k, is_k, is_k, trivial⟩
       ⟨fun f s W l m p q r j => opv rfl rfl (by simp [go_sem, j.e 5 k44_5]) rfl,
  fun f s W l m p q r j => opv rfl rfl (by simp [go_sem, j.e 98 (m 0 rfl)]) rfl,
  fun f s W l m p q r j => opv rfl rfl (by simp [go_sem, j.e 99 (m 1 rfl), Joins.cell_of_block (blk_below b44_2 l) 0]) rfl,
  fun f s W l m p q r j => opv rfl rfl (by simp [go_sem, j.e 5 k44_5]) rfl,
  fun f s W l m p q r j => opv rfl rfl (by simp [go_sem, j.e 101 (m 3 rfl)]) rfl,
  fun f s W l m p q r j => opv rfl rfl (by simp [go_sem, j.e 102 (m 4 rfl), Joins.cell_of_block (blk_below b44_2 l) 2]) rfl,
  fun f s W l m p q r j => opv rfl rfl (by simp [go_sem, j.e 100 (m 2 rfl)]) rfl,
  fun f s W l m p q r j => opv rfl rfl (by simp [go_sem, j.e 103 (m 5 rfl)]) rfl, trivial⟩ ?_
      intro f45 s45 W45 hB45 g45 hg45
      have fB45 := below_trans fB44 hB45.below
      have z45 := hB45.below.size
      have b45_0 := blk_below b44_0 hB45.below
      have b45_1 := blk_below b44_1 hB45.below
      have b45_2 := blk_below b44_2 hB45.below
      have b45_3 := blk_below b44_3 hB45.below
      have q125' := (q124'.below hB45.below (Nat.le_refl _))
      refine hK76 _ _ ?_
      have k45_3 := kt hg45 3 k44_3
      have k45_4 := kt hg45 4 k44_4
      have k45_5 := kt hg45 5 k44_5
      have k45_6 := kt hg45 6 k44_6
      have k45_9 := kt hg45 9 k44_9
      have k45_13 := kt hg45 13 k44_13
      have k45_14 := kt hg45 14 k44_14
      have k45_106 := kt hg45 106 k44_106
      have k45_111 := kt hg45 111 k44_111
      have k45_18 := kt hg45 18 k44_18
      have k45_135 := kt hg45 135 k44_135
      have k45_15 := kt hg45 15 k44_15
      have k45_95 := kt hg45 95 k44_95
      have k45_16 := kt hg45 16 (hB45.is 6)
      have k45_17 := kt hg45 17 (hB45.is 7)
      refine wp_seq_k fun K77 hK77 => ?_
      refine wp_seq_k fun K78 hK78 => ?_
      refine region_dk 3 [(104, 0), (105, 1), (106, 2)] [[], [0], [0, 1]] (rel [is (.int .i64 1),
   is (.int .i64 1),
   is (.bool true)])
       ⟨is_k, is_k, is_k, trivial⟩
       ⟨fun f s W l m p q r j => opv rfl rfl (by simp [go_sem, j.e 15 k45_15]) rfl,
  fun f s W l m p q r j => opv rfl rfl (by simp [go_sem, j.e 104 (m 0 rfl)]) rfl,
  fun f s W l m p q r j => opv rfl rfl (by simp [go_sem, j.e 105 (m 1 rfl)]) rfl, trivial⟩ ?_
      intro f46 s46 W46 hB46 g46 hg46
      have fB46 := below_trans fB45 hB46.below
      have z46 := hB46.below.size
      have b46_0 := blk_below b45_0 hB46.below
      have b46_1 := blk_below b45_1 hB46.below
      have b46_2 := blk_below b45_2 hB46.below
      have b46_3 := blk_below b45_3 hB46.below
      have q126' := (q125'.below hB46.below (Nat.le_refl _))
      refine hK78 _ _ ?_
      have k46_3 := kt hg46 3 k45_3
      have k46_4 := kt hg46 4 k45_4
      have k46_5 := kt hg46 5 k45_5
      have k46_6 := kt hg46 6 k45_6
      have k46_9 := kt hg46 9 k45_9
      have k46_13 := kt hg46 13 k45_13
      have k46_14 := kt hg46 14 k45_14
      have k46_111 := kt hg46 111 k45_111
      have k46_18 := kt hg46 18 k45_18
      have k46_135 := kt hg46 135 k45_135
      have k46_15 := kt hg46 15 k45_15
      have k46_95 := kt hg46 95 k45_95
      have k46_16 := kt hg46 16 k45_16
      have k46_17 := kt hg46 17 k45_17
      have k46_106 := kt hg46 106 (hB46.is 2)
      refine wp_cond_true ((fr_eval rfl).trans k46_106) ?_
      refine region_dk 4 [(107, 0), (108, 1), (109, 2), (16, 3)] [[], [0], [0, 1], [0, 1, 2]] (rel [is (.pointer (some ⟨(s1 2), 0, none⟩)),
   is (.pointer (some ⟨(s1 2), 1, none⟩)),
   is (.int .i64 hi1),
   is (.int .i64 hi1)])
       ⟨is_k, is_k, is_k, is_k, trivial⟩
       ⟨fun f s W l m p q r j => opv rfl rfl (by simp [go_sem, j.e 5 k46_5]) rfl,
  fun f s W l m p q r j => opv rfl rfl (by simp [go_sem, j.e 107 (m 0 rfl)]) rfl,
  fun f s W l m p q r j => opv rfl rfl (by simp [go_sem, j.e 108 (m 1 rfl), Joins.cell_of_block (blk_below b46_2 l) 1]) rfl,
  fun f s W l m p q r j => opv rfl rfl (by simp [go_sem, j.e 109 (m 2 rfl)]) rfl, trivial⟩ ?_
      intro f47 s47 W47 hB47 g47 hg47
      have fB47 := below_trans fB46 hB47.below
      have z47 := hB47.below.size
      have b47_0 := blk_below b46_0 hB47.below
      have b47_1 := blk_below b46_1 hB47.below
      have b47_2 := blk_below b46_2 hB47.below
      have b47_3 := blk_below b46_3 hB47.below
      have q127' := (q126'.below hB47.below (Nat.le_refl _))
      refine hK77 _ _ ?_
      have k47_3 := kt hg47 3 k46_3
      have k47_4 := kt hg47 4 k46_4
      have k47_5 := kt hg47 5 k46_5
      have k47_6 := kt hg47 6 k46_6
      have k47_9 := kt hg47 9 k46_9
      have k47_13 := kt hg47 13 k46_13
      have k47_14 := kt hg47 14 k46_14
      have k47_111 := kt hg47 111 k46_111
      have k47_18 := kt hg47 18 k46_18
      have k47_135 := kt hg47 135 k46_135
      have k47_15 := kt hg47 15 k46_15
      have k47_95 := kt hg47 95 k46_95
      have k47_17 := kt hg47 17 k46_17
      have k47_106 := kt hg47 106 k46_106
      have k47_16 := kt hg47 16 (hB47.is 3)
      refine wp_seq_k fun K80 hK80 => ?_
      refine wp_seq_k fun K81 hK81 => ?_
      refine region_dk 2 [(110, 0), (111, 1)] [[], [0]] (rel [is (.int .i64 1),
   is (.bool false)])
       ⟨is_k, is_k, trivial⟩
       ⟨fun f s W l m p q r j => opv rfl rfl (by simp [go_sem, j.e 15 k47_15]) rfl,
  fun f s W l m p q r j => opv rfl rfl (by simp [go_sem, j.e 110 (m 0 rfl)]) rfl, trivial⟩ ?_
      intro f48 s48 W48 hB48 g48 hg48
      have fB48 := below_trans fB47 hB48.below
      have z48 := hB48.below.size
      have b48_0 := blk_below b47_0 hB48.below
      have b48_1 := blk_below b47_1 hB48.below
      have b48_2 := blk_below b47_2 hB48.below
      have b48_3 := blk_below b47_3 hB48.below
      have q128' := (q127'.below hB48.below (Nat.le_refl _))
      refine hK81 _ _ ?_
      have k48_3 := kt hg48 3 k47_3
      have k48_4 := kt hg48 4 k47_4
      have k48_5 := kt hg48 5 k47_5
      have k48_6 := kt hg48 6 k47_6
      have k48_9 := kt hg48 9 k47_9
      have k48_13 := kt hg48 13 k47_13
      have k48_14 := kt hg48 14 k47_14
      have k48_18 := kt hg48 18 k47_18
      have k48_135 := kt hg48 135 k47_135
      have k48_15 := kt hg48 15 k47_15
      have k48_95 := kt hg48 95 k47_95
      have k48_17 := kt hg48 17 k47_17
      have k48_106 := kt hg48 106 k47_106
      have k48_16 := kt hg48 16 k47_16
      have k48_111 := kt hg48 111 (hB48.is 1)
      refine wp_cond_false ((fr_eval rfl).trans k48_111) ?_
      refine wp_skip ?_
      refine hK80 _ _ ?_
      refine wp_seq_k fun K83 hK83 => ?_
      refine region_dk 13 [(115, 0), (116, 1), (117, 2), (118, 3), (119, 4), (120, 5), (121, 6), (122, 7), (123, 8), (124, 9), (125, 10), (126, 11), (18, 12)] [[], [], [], [0, 1, 2], [], [], [], [0, 1, 2, 3, 4, 5, 6], [], [8], [0, 1, 2, 3, 4, 5, 6, 7, 8, 9], [0, 1, 2, 3, 4, 5, 6, 7, 8, 9, 10], [0, 1, 2, 3, 4, 5, 6, 7, 8, 9, 10, 11]] (rel [is (.agg #[.int .i64 b.tab, .slice (a1) (b.panels.length) (c1), .int .i64 b.height, .slice (a2) (b.top.length) (c2), .slice (a3) (b.bottom.length) (c3), .int .i64 b.slot, .bool b.isOpen]),
   is (.int .i64 ((i : Int))),
   is (.int .i64 hi1),
   is (.int .i64 ((panR b i hi1))),
   is (.agg #[.int .i64 d.tab, .slice (x1) (d.panels.length) (y1), .int .i64 d.height, .slice (x2) (d.top.length) (y2), .slice (x3) (d.bottom.length) (y3), .int .i64 d.slot, .bool d.isOpen]),
   is (.int .i64 ((i : Int))),
   is (.int .i64 lo2),
   is (.int .i64 ((panR d i lo2))),
   is (.int .i64 lo2),
   is (.int .i64 (2 * lo2)),
   is (.int .i64 ((panR d i lo2) + (2 * lo2))),
   is (.int .i64 ((panR b i hi1) - ((panR d i lo2) + (2 * lo2)))),
   is (.int .i64 ((panR b i hi1) - ((panR d i lo2) + (2 * lo2))))])
       ⟨is_k, is_k, is_k, is_k, is_k, is_k, is_k, is_k, is_k, is_k, is_k, is_k, is_k, trivial⟩
       ⟨fun f s W l m p q r j => opv rfl rfl (by simp [go_sem, j.e 3 k48_3, Joins.cell_of_block (blk_below b48_0 l) 0, Joins.cell_of_block (blk_below b48_0 l) 1, Joins.cell_of_block (blk_below b48_0 l) 2, Joins.cell_of_block (blk_below b48_0 l) 3, Joins.cell_of_block (blk_below b48_0 l) 4, Joins.cell_of_block (blk_below b48_0 l) 5, Joins.cell_of_block (blk_below b48_0 l) 6]) rfl,
  fun f s W l m p q r j => opv rfl rfl (by simp [go_sem, j.e 13 k48_13]) rfl,
  fun f s W l m p q r j => opv rfl rfl (by simp [go_sem, j.e 16 k48_16]) rfl,
  fun f s W l m p q r j => by have x := below_trans fB48 l; exact opc (args := #[.agg #[.int .i64 b.tab, .slice (a1) (b.panels.length) (c1), .int .i64 b.height, .slice (a2) (b.top.length) (c2), .slice (a3) (b.bottom.length) (c3), .int .i64 b.slot, .bool b.isOpen], .int .i64 ((i : Int)), .int .i64 hi1]) rfl rfl (by simp [go_sem, j.e 115 (m 0 rfl), j.e 116 (m 1 rfl), j.e 117 (m 2 rfl)]) (panR_any a1 a2 a3 c1 c2 c3 b i (i : Int) _ hi1 W (h1.below x (Nat.le_refl _)) (h2.below x (Nat.le_refl _)) (h3.below x (Nat.le_refl _)) rfl pb.1 rfl (by omega) (by omega) (by omega) (by omega)),
  fun f s W l m p q r j => opv rfl rfl (by simp [go_sem, j.e 4 k48_4, Joins.cell_of_block (blk_below b48_1 l) 0, Joins.cell_of_block (blk_below b48_1 l) 1, Joins.cell_of_block (blk_below b48_1 l) 2, Joins.cell_of_block (blk_below b48_1 l) 3, Joins.cell_of_block (blk_below b48_1 l) 4, Joins.cell_of_block (blk_below b48_1 l) 5, Joins.cell_of_block (blk_below b48_1 l) 6]) rfl,
  fun f s W l m p q r j => opv rfl rfl (by simp [go_sem, j.e 13 k48_13]) rfl,
  fun f s W l m p q r j => opv rfl rfl (by simp [go_sem, j.e 17 k48_17]) rfl,
  fun f s W l m p q r j => by have x := below_trans fB48 l; exact opc (args := #[.agg #[.int .i64 d.tab, .slice (x1) (d.panels.length) (y1), .int .i64 d.height, .slice (x2) (d.top.length) (y2), .slice (x3) (d.bottom.length) (y3), .int .i64 d.slot, .bool d.isOpen], .int .i64 ((i : Int)), .int .i64 lo2]) rfl rfl (by simp [go_sem, j.e 119 (m 4 rfl), j.e 120 (m 5 rfl), j.e 121 (m 6 rfl)]) (panR_any x1 x2 x3 y1 y2 y3 d i (i : Int) _ lo2 W (m1.below x (Nat.le_refl _)) (m2.below x (Nat.le_refl _)) (m3.below x (Nat.le_refl _)) rfl pd.1 rfl (by omega) (by omega) (by omega) (by omega)),
  fun f s W l m p q r j => opv rfl rfl (by simp [go_sem, j.e 17 k48_17]) rfl,
  fun f s W l m p q r j => opv rfl rfl (by simp [go_sem, j.e 123 (m 8 rfl), IntWalk.i64_in (2 * lo2) (by omega)]) rfl,
  fun f s W l m p q r j => opv rfl rfl (by simp [go_sem, j.e 122 (m 7 rfl), j.e 124 (m 9 rfl), IntWalk.i64_in ((panR d i lo2) + (2 * lo2)) (by omega)]) rfl,
  fun f s W l m p q r j => opv rfl rfl (by simp [go_sem, j.e 118 (m 3 rfl), j.e 125 (m 10 rfl), IntWalk.i64_in ((panR b i hi1) - ((panR d i lo2) + (2 * lo2))) (by omega)]) rfl,
  fun f s W l m p q r j => opv rfl rfl (by simp [go_sem, j.e 126 (m 11 rfl)]) rfl, trivial⟩ ?_
      intro f49 s49 W49 hB49 g49 hg49
      have fB49 := below_trans fB48 hB49.below
      have z49 := hB49.below.size
      have b49_0 := blk_below b48_0 hB49.below
      have b49_1 := blk_below b48_1 hB49.below
      have b49_2 := blk_below b48_2 hB49.below
      have b49_3 := blk_below b48_3 hB49.below
      have q129' := (q128'.below hB49.below (Nat.le_refl _))
      refine hK83 _ _ ?_
      have k49_3 := kt hg49 3 k48_3
      have k49_4 := kt hg49 4 k48_4
      have k49_5 := kt hg49 5 k48_5
      have k49_6 := kt hg49 6 k48_6
      have k49_9 := kt hg49 9 k48_9
      have k49_13 := kt hg49 13 k48_13
      have k49_14 := kt hg49 14 k48_14
      have k49_135 := kt hg49 135 k48_135
      have k49_15 := kt hg49 15 k48_15
      have k49_95 := kt hg49 95 k48_95
      have k49_17 := kt hg49 17 k48_17
      have k49_106 := kt hg49 106 k48_106
      have k49_16 := kt hg49 16 k48_16
      have k49_111 := kt hg49 111 k48_111
      have k49_18 := kt hg49 18 (hB49.is 12)
      refine region_dk 9 [(127, 0), (128, 1), (129, 2), (130, 3), (131, 4), (132, 5), (133, 6), (134, 7), (135, 8)] [[], [0], [], [0, 1, 2], [], [4], [], [4, 5, 6], [0, 1, 2, 3, 4, 5, 6, 7], [0, 1, 2, 3, 4, 5, 6, 7, 8]] (rel [is (.pointer (some ⟨(s33 1), 0, none⟩)),
   is (.int .i64 (min 1099511627776 ((panR b i lo1) - ((panR d i lo2) + (2 * lo2))))),
   is (.int .i64 ((panR b i hi1) - ((panR d i lo2) + (2 * lo2)))),
   is (.int .i64 (min (min 1099511627776 ((panR b i lo1) - ((panR d i lo2) + (2 * lo2)))) ((panR b i hi1) - ((panR d i lo2) + (2 * lo2))))),
   is (.pointer (some ⟨(s33 1), 1, none⟩)),
   is (.int .i64 (max (-1099511627776) ((panR b i lo1) - ((panR d i lo2) + (2 * lo2))))),
   is (.int .i64 ((panR b i hi1) - ((panR d i lo2) + (2 * lo2)))),
   is (.int .i64 (max (max (-1099511627776) ((panR b i lo1) - ((panR d i lo2) + (2 * lo2)))) ((panR b i hi1) - ((panR d i lo2) + (2 * lo2))))),
   is (.agg #[.int .i64 (min (min 1099511627776 ((panR b i lo1) - ((panR d i lo2) + (2 * lo2)))) ((panR b i hi1) - ((panR d i lo2) + (2 * lo2)))), .int .i64 (max (max (-1099511627776) ((panR b i lo1) - ((panR d i lo2) + (2 * lo2)))) ((panR b i hi1) - ((panR d i lo2) + (2 * lo2))))])])
       ⟨is_k, is_k, is_k, is_k, is_k, is_k, is_k, is_k, is_k, trivial⟩
       ⟨fun f s W l m p q r j => opv rfl rfl (by simp [go_sem, j.e 14 k49_14]) rfl,
  fun f s W l m p q r j => opv rfl rfl (by simp [go_sem, j.e 127 (m 0 rfl), Joins.cell_of_block (blk_below b49_3 l) 0]) rfl,
  fun f s W l m p q r j => opv rfl rfl (by simp [go_sem, j.e 18 k49_18]) rfl,
  fun f s W l m p q r j => opv rfl rfl (by simp [go_sem, j.e 128 (m 1 rfl), j.e 129 (m 2 rfl)]) rfl,
  fun f s W l m p q r j => opv rfl rfl (by simp [go_sem, j.e 14 k49_14]) rfl,
  fun f s W l m p q r j => opv rfl rfl (by simp [go_sem, j.e 131 (m 4 rfl), Joins.cell_of_block (blk_below b49_3 l) 1]) rfl,
  fun f s W l m p q r j => opv rfl rfl (by simp [go_sem, j.e 18 k49_18]) rfl,
  fun f s W l m p q r j => opv rfl rfl (by simp [go_sem, j.e 132 (m 5 rfl), j.e 133 (m 6 rfl)]) rfl,
  fun f s W l m p q r j => opc rfl rfl (by simp [go_sem, j.e 130 (m 3 rfl), j.e 134 (m 7 rfl)]) (span_any (min (min 1099511627776 ((panR b i lo1) - ((panR d i lo2) + (2 * lo2)))) ((panR b i hi1) - ((panR d i lo2) + (2 * lo2)))) (max (max (-1099511627776) ((panR b i lo1) - ((panR d i lo2) + (2 * lo2)))) ((panR b i hi1) - ((panR d i lo2) + (2 * lo2)))) W), trivial⟩ ?_
      intro f50 s50 W50 hB50 g50 hg50
      have fB50 := below_trans fB49 hB50.below
      have z50 := hB50.below.size
      have b50_0 := blk_below b49_0 hB50.below
      have b50_1 := blk_below b49_1 hB50.below
      have b50_2 := blk_below b49_2 hB50.below
      have b50_3 := blk_below b49_3 hB50.below
      have q130' := (q129'.below hB50.below (Nat.le_refl _))
      have k50_3 := kt hg50 3 k49_3
      have k50_4 := kt hg50 4 k49_4
      have k50_5 := kt hg50 5 k49_5
      have k50_6 := kt hg50 6 k49_6
      have k50_9 := kt hg50 9 k49_9
      have k50_13 := kt hg50 13 k49_13
      have k50_14 := kt hg50 14 k49_14
      have k50_15 := kt hg50 15 k49_15
      have k50_95 := kt hg50 95 k49_95
      have k50_17 := kt hg50 17 k49_17
      have k50_106 := kt hg50 106 k49_106
      have k50_16 := kt hg50 16 k49_16
      have k50_111 := kt hg50 111 k49_111
      have k50_18 := kt hg50 18 k49_18
      have k50_135 := kt hg50 135 (hB50.is 8)
      obtain ⟨W51, hW51⟩ : ∃ W', W' = W50.setRow (s33 1) #[.int .i64 (min (min 1099511627776 ((panR b i lo1) - ((panR d i lo2) + (2 * lo2)))) ((panR b i hi1) - ((panR d i lo2) + (2 * lo2)))), .int .i64 (max (max (-1099511627776) ((panR b i lo1) - ((panR d i lo2) + (2 * lo2)))) ((panR b i hi1) - ((panR d i lo2) + (2 * lo2))))] := ⟨_, rfl⟩
      refine tail_skip (o := _) rfl ⟨rfl, rfl⟩ (run_seg hW51 (fr_ev k50_14) (fr_ev k50_135) b50_3 rfl rfl rfl rfl) ?_
      obtain ⟨fB51, nb51, ot51, z51⟩ := seg_facts hW51 fB50 b50_3 (by omega)
      clear hW51
      have b51_0 := ot51 _ _ (by omega) b50_0
      have b51_1 := ot51 _ _ (by omega) b50_1
      have b51_2 := ot51 _ _ (by omega) b50_2
      have q131' := (q130'.otherA ot51 (fun g o e => by rw [hab] at e; cases e; omega) z51)
      refine wpOps_end ?_
      refine inBlock_normal ?_
      refine hK75 _ _ ?_
      refine region_dk 3 [(96, 0), (97, 1), (15, 2)] [[], [0], [0, 1]] (rel [is (.int .i64 1),
   is (.int .i64 2),
   is (.int .i64 2)])
       ⟨is_k, is_k, is_k, trivial⟩
       ⟨fun f s W l m p q r j => opv rfl rfl (by simp [go_sem, j.e 15 ((q 2 15 rfl rfl).trans k50_15)]) rfl,
  fun f s W l m p q r j => opv rfl rfl (by simp [go_sem, j.e 96 (m 0 rfl), IntWalk.i64_in (2) (by omega)]) rfl,
  fun f s W l m p q r j => opv rfl rfl (by simp [go_sem, j.e 97 (m 1 rfl)]) rfl, trivial⟩ ?_
      intro f52 s52 W52 hB52 g52 hg52
      have fB52 := below_trans fB51 hB52.below
      have z52 := hB52.below.size
      have b52_0 := blk_below b51_0 hB52.below
      have b52_1 := blk_below b51_1 hB52.below
      have b52_2 := blk_below b51_2 hB52.below
      have b52_3 := blk_below nb51 hB52.below
      have q132' := (q131'.below hB52.below (Nat.le_refl _))
      refine wpOps_end ?_
      have k52_3 := kt hg52 3 k50_3
      have k52_4 := kt hg52 4 k50_4
      have k52_5 := kt hg52 5 k50_5
      have k52_6 := kt hg52 6 k50_6
      have k52_9 := kt hg52 9 k50_9
      have k52_13 := kt hg52 13 k50_13
      have k52_14 := kt hg52 14 k50_14
      have k52_95 := kt hg52 95 k50_95
      have k52_17 := kt hg52 17 k50_17
      have k52_106 := kt hg52 106 k50_106
      have k52_16 := kt hg52 16 k50_16
      have k52_111 := kt hg52 111 k50_111
      have k52_18 := kt hg52 18 k50_18
      have k52_135 := kt hg52 135 k50_135
      have k52_15 := kt hg52 15 (hB52.is 2)
      refine then_normal ?_
      rw [rounds_succ]
      refine wp_seq_k fun K84 hK84 => ?_
      refine wp_seq_k fun K85 hK85 => ?_
      refine region_dk 2 [(94, 0), (95, 1)] [[], [0]] (rel [is (.int .i64 2),
   is (.bool true)])
       ⟨is_k, is_k, trivial⟩
       ⟨fun f s W l m p q r j => opv rfl rfl (by simp [go_sem, j.e 15 k52_15]) rfl,
  fun f s W l m p q r j => opv rfl rfl (by simp [go_sem, j.e 94 (m 0 rfl)]) rfl, trivial⟩ ?_
      intro f53 s53 W53 hB53 g53 hg53
      have fB53 := below_trans fB52 hB53.below
      have z53 := hB53.below.size
      have b53_0 := blk_below b52_0 hB53.below
      have b53_1 := blk_below b52_1 hB53.below
      have b53_2 := blk_below b52_2 hB53.below
      have b53_3 := blk_below b52_3 hB53.below
      have q133' := (q132'.below hB53.below (Nat.le_refl _))
      refine hK85 _ _ ?_
      have k53_3 := kt hg53 3 k52_3
      have k53_4 := kt hg53 4 k52_4
      have k53_5 := kt hg53 5 k52_5
      have k53_6 := kt hg53 6 k52_6
      have k53_9 := kt hg53 9 k52_9
      have k53_13 := kt hg53 13 k52_13
      have k53_14 := kt hg53 14 k52_14
      have k53_17 := kt hg53 17 k52_17
      have k53_106 := kt hg53 106 k52_106
      have k53_16 := kt hg53 16 k52_16
      have k53_111 := kt hg53 111 k52_111
      have k53_18 := kt hg53 18 k52_18
      have k53_135 := kt hg53 135 k52_135
      have k53_15 := kt hg53 15 k52_15
      have k53_95 := kt hg53 95 (hB53.is 1)
      refine wp_cond_true ((fr_eval rfl).trans k53_95) ?_
      refine wp_skip ?_
      refine hK84 _ _ ?_
      refine wp_seq_k fun K87 hK87 => ?_
      refine wp_block ?_
      refine wp_seq_k fun K88 hK88 => ?_
      refine region_dk 8 [(98, 0), (99, 1), (100, 2), (101, 3), (102, 4), (103, 5), (16, 6), (17, 7)] [[], [0], [0, 1], [], [3], [3, 4], [0, 1, 2], [0, 1, 2, 3, 4, 5, 6]] (rel [is (.pointer (some ⟨(s1 2), 0, none⟩)),
   is (.pointer (some ⟨(s1 2), 0, none⟩)),
   is (.int .i64 lo1),
   is (.pointer (some ⟨(s1 2), 2, none⟩)),
   is (.pointer (some ⟨(s1 2), 2, none⟩)),
   is (.int .i64 lo2),
   is (.int .i64 lo1),
   is (.int .i64 lo2)])
       ⟨is_k, is_k, is_k, is_k, is_k, is_k, is_k, is_k, trivial⟩
       ⟨fun f s W l m p q r j => opv rfl rfl (by simp [go_sem, j.e 5 k53_5]) rfl,
  fun f s W l m p q r j => opv rfl rfl (by simp [go_sem, j.e 98 (m 0 rfl)]) rfl,
  fun f s W l m p q r j => opv rfl rfl (by simp [go_sem, j.e 99 (m 1 rfl), Joins.cell_of_block (blk_below b53_2 l) 0]) rfl,
  fun f s W l m p q r j => opv rfl rfl (by simp [go_sem, j.e 5 k53_5]) rfl,
  fun f s W l m p q r j => opv rfl rfl (by simp [go_sem, j.e 101 (m 3 rfl)]) rfl,
  fun f s W l m p q r j => opv rfl rfl (by simp [go_sem, j.e 102 (m 4 rfl), Joins.cell_of_block (blk_below b53_2 l) 2]) rfl,
  fun f s W l m p q r j => opv rfl rfl (by simp [go_sem, j.e 100 (m 2 rfl)]) rfl,
  fun f s W l m p q r j => opv rfl rfl (by simp [go_sem, j.e 103 (m 5 rfl)]) rfl, trivial⟩ ?_
      intro f54 s54 W54 hB54 g54 hg54
      have fB54 := below_trans fB53 hB54.below
      have z54 := hB54.below.size
      have b54_0 := blk_below b53_0 hB54.below
      have b54_1 := blk_below b53_1 hB54.below
      have b54_2 := blk_below b53_2 hB54.below
      have b54_3 := blk_below b53_3 hB54.below
      have q134' := (q133'.below hB54.below (Nat.le_refl _))
      refine hK88 _ _ ?_
      have k54_3 := kt hg54 3 k53_3
      have k54_4 := kt hg54 4 k53_4
      have k54_5 := kt hg54 5 k53_5
      have k54_6 := kt hg54 6 k53_6
      have k54_9 := kt hg54 9 k53_9
      have k54_13 := kt hg54 13 k53_13
      have k54_14 := kt hg54 14 k53_14
      have k54_106 := kt hg54 106 k53_106
      have k54_111 := kt hg54 111 k53_111
      have k54_18 := kt hg54 18 k53_18
      have k54_135 := kt hg54 135 k53_135
      have k54_15 := kt hg54 15 k53_15
      have k54_95 := kt hg54 95 k53_95
      have k54_16 := kt hg54 16 (hB54.is 6)
      have k54_17 := kt hg54 17 (hB54.is 7)
      refine wp_seq_k fun K89 hK89 => ?_
      refine wp_seq_k fun K90 hK90 => ?_
      refine region_dk 3 [(104, 0), (105, 1), (106, 2)] [[], [0], [0, 1]] (rel [is (.int .i64 2),
   is (.int .i64 0),
   is (.bool false)])
       ⟨is_k, is_k, is_k, trivial⟩
       ⟨fun f s W l m p q r j => opv rfl rfl (by simp [go_sem, j.e 15 k54_15]) rfl,
  fun f s W l m p q r j => opv rfl rfl (by simp [go_sem, j.e 104 (m 0 rfl)]) rfl,
  fun f s W l m p q r j => opv rfl rfl (by simp [go_sem, j.e 105 (m 1 rfl)]) rfl, trivial⟩ ?_
      intro f55 s55 W55 hB55 g55 hg55
      have fB55 := below_trans fB54 hB55.below
      have z55 := hB55.below.size
      have b55_0 := blk_below b54_0 hB55.below
      have b55_1 := blk_below b54_1 hB55.below
      have b55_2 := blk_below b54_2 hB55.below
      have b55_3 := blk_below b54_3 hB55.below
      have q135' := (q134'.below hB55.below (Nat.le_refl _))
      refine hK90 _ _ ?_
      have k55_3 := kt hg55 3 k54_3
      have k55_4 := kt hg55 4 k54_4
      have k55_5 := kt hg55 5 k54_5
      have k55_6 := kt hg55 6 k54_6
      have k55_9 := kt hg55 9 k54_9
      have k55_13 := kt hg55 13 k54_13
      have k55_14 := kt hg55 14 k54_14
      have k55_111 := kt hg55 111 k54_111
      have k55_18 := kt hg55 18 k54_18
      have k55_135 := kt hg55 135 k54_135
      have k55_15 := kt hg55 15 k54_15
      have k55_95 := kt hg55 95 k54_95
      have k55_16 := kt hg55 16 k54_16
      have k55_17 := kt hg55 17 k54_17
      have k55_106 := kt hg55 106 (hB55.is 2)
      refine wp_cond_false ((fr_eval rfl).trans k55_106) ?_
      refine wp_skip ?_
      refine hK89 _ _ ?_
      refine wp_seq_k fun K92 hK92 => ?_
      refine wp_seq_k fun K93 hK93 => ?_
      refine region_dk 2 [(110, 0), (111, 1)] [[], [0]] (rel [is (.int .i64 2),
   is (.bool true)])
       ⟨is_k, is_k, trivial⟩
       ⟨fun f s W l m p q r j => opv rfl rfl (by simp [go_sem, j.e 15 k55_15]) rfl,
  fun f s W l m p q r j => opv rfl rfl (by simp [go_sem, j.e 110 (m 0 rfl)]) rfl, trivial⟩ ?_
      intro f56 s56 W56 hB56 g56 hg56
      have fB56 := below_trans fB55 hB56.below
      have z56 := hB56.below.size
      have b56_0 := blk_below b55_0 hB56.below
      have b56_1 := blk_below b55_1 hB56.below
      have b56_2 := blk_below b55_2 hB56.below
      have b56_3 := blk_below b55_3 hB56.below
      have q136' := (q135'.below hB56.below (Nat.le_refl _))
      refine hK93 _ _ ?_
      have k56_3 := kt hg56 3 k55_3
      have k56_4 := kt hg56 4 k55_4
      have k56_5 := kt hg56 5 k55_5
      have k56_6 := kt hg56 6 k55_6
      have k56_9 := kt hg56 9 k55_9
      have k56_13 := kt hg56 13 k55_13
      have k56_14 := kt hg56 14 k55_14
      have k56_18 := kt hg56 18 k55_18
      have k56_135 := kt hg56 135 k55_135
      have k56_15 := kt hg56 15 k55_15
      have k56_95 := kt hg56 95 k55_95
      have k56_16 := kt hg56 16 k55_16
      have k56_17 := kt hg56 17 k55_17
      have k56_106 := kt hg56 106 k55_106
      have k56_111 := kt hg56 111 (hB56.is 1)
      refine wp_cond_true ((fr_eval rfl).trans k56_111) ?_
      refine region_dk 4 [(112, 0), (113, 1), (114, 2), (17, 3)] [[], [0], [0, 1], [0, 1, 2]] (rel [is (.pointer (some ⟨(s1 2), 2, none⟩)),
   is (.pointer (some ⟨(s1 2), 3, none⟩)),
   is (.int .i64 hi2),
   is (.int .i64 hi2)])
       ⟨is_k, is_k, is_k, is_k, trivial⟩
       ⟨fun f s W l m p q r j => opv rfl rfl (by simp [go_sem, j.e 5 k56_5]) rfl,
  fun f s W l m p q r j => opv rfl rfl (by simp [go_sem, j.e 112 (m 0 rfl)]) rfl,
  fun f s W l m p q r j => opv rfl rfl (by simp [go_sem, j.e 113 (m 1 rfl), Joins.cell_of_block (blk_below b56_2 l) 3]) rfl,
  fun f s W l m p q r j => opv rfl rfl (by simp [go_sem, j.e 114 (m 2 rfl)]) rfl, trivial⟩ ?_
      intro f57 s57 W57 hB57 g57 hg57
      have fB57 := below_trans fB56 hB57.below
      have z57 := hB57.below.size
      have b57_0 := blk_below b56_0 hB57.below
      have b57_1 := blk_below b56_1 hB57.below
      have b57_2 := blk_below b56_2 hB57.below
      have b57_3 := blk_below b56_3 hB57.below
      have q137' := (q136'.below hB57.below (Nat.le_refl _))
      refine hK92 _ _ ?_
      have k57_3 := kt hg57 3 k56_3
      have k57_4 := kt hg57 4 k56_4
      have k57_5 := kt hg57 5 k56_5
      have k57_6 := kt hg57 6 k56_6
      have k57_9 := kt hg57 9 k56_9
      have k57_13 := kt hg57 13 k56_13
      have k57_14 := kt hg57 14 k56_14
      have k57_18 := kt hg57 18 k56_18
      have k57_135 := kt hg57 135 k56_135
      have k57_15 := kt hg57 15 k56_15
      have k57_95 := kt hg57 95 k56_95
      have k57_16 := kt hg57 16 k56_16
      have k57_106 := kt hg57 106 k56_106
      have k57_111 := kt hg57 111 k56_111
      have k57_17 := kt hg57 17 (hB57.is 3)
      refine wp_seq_k fun K95 hK95 => ?_
      refine region_dk 13 [(115, 0), (116, 1), (117, 2), (118, 3), (119, 4), (120, 5), (121, 6), (122, 7), (123, 8), (124, 9), (125, 10), (126, 11), (18, 12)] [[], [], [], [0, 1, 2], [], [], [], [0, 1, 2, 3, 4, 5, 6], [], [8], [0, 1, 2, 3, 4, 5, 6, 7, 8, 9], [0, 1, 2, 3, 4, 5, 6, 7, 8, 9, 10], [0, 1, 2, 3, 4, 5, 6, 7, 8, 9, 10, 11]] (rel [is (.agg #[.int .i64 b.tab, .slice (a1) (b.panels.length) (c1), .int .i64 b.height, .slice (a2) (b.top.length) (c2), .slice (a3) (b.bottom.length) (c3), .int .i64 b.slot, .bool b.isOpen]),
   is (.int .i64 ((i : Int))),
   is (.int .i64 lo1),
   is (.int .i64 ((panR b i lo1))),
   is (.agg #[.int .i64 d.tab, .slice (x1) (d.panels.length) (y1), .int .i64 d.height, .slice (x2) (d.top.length) (y2), .slice (x3) (d.bottom.length) (y3), .int .i64 d.slot, .bool d.isOpen]),
   is (.int .i64 ((i : Int))),
   is (.int .i64 hi2),
   is (.int .i64 ((panR d i hi2))),
   is (.int .i64 hi2),
   is (.int .i64 (2 * hi2)),
   is (.int .i64 ((panR d i hi2) + (2 * hi2))),
   is (.int .i64 ((panR b i lo1) - ((panR d i hi2) + (2 * hi2)))),
   is (.int .i64 ((panR b i lo1) - ((panR d i hi2) + (2 * hi2))))])
       ⟨is_k, is_k, is_k, is_k, is_k, is_k, is_k, is_k, is_k, is_k, is_k, is_k, is_k, trivial⟩
       ⟨fun f s W l m p q r j => opv rfl rfl (by simp [go_sem, j.e 3 k57_3, Joins.cell_of_block (blk_below b57_0 l) 0, Joins.cell_of_block (blk_below b57_0 l) 1, Joins.cell_of_block (blk_below b57_0 l) 2, Joins.cell_of_block (blk_below b57_0 l) 3, Joins.cell_of_block (blk_below b57_0 l) 4, Joins.cell_of_block (blk_below b57_0 l) 5, Joins.cell_of_block (blk_below b57_0 l) 6]) rfl,
  fun f s W l m p q r j => opv rfl rfl (by simp [go_sem, j.e 13 k57_13]) rfl,
  fun f s W l m p q r j => opv rfl rfl (by simp [go_sem, j.e 16 k57_16]) rfl,
  fun f s W l m p q r j => by have x := below_trans fB57 l; exact opc (args := #[.agg #[.int .i64 b.tab, .slice (a1) (b.panels.length) (c1), .int .i64 b.height, .slice (a2) (b.top.length) (c2), .slice (a3) (b.bottom.length) (c3), .int .i64 b.slot, .bool b.isOpen], .int .i64 ((i : Int)), .int .i64 lo1]) rfl rfl (by simp [go_sem, j.e 115 (m 0 rfl), j.e 116 (m 1 rfl), j.e 117 (m 2 rfl)]) (panR_any a1 a2 a3 c1 c2 c3 b i (i : Int) _ lo1 W (h1.below x (Nat.le_refl _)) (h2.below x (Nat.le_refl _)) (h3.below x (Nat.le_refl _)) rfl pb.1 rfl (by omega) (by omega) (by omega) (by omega)),
  fun f s W l m p q r j => opv rfl rfl (by simp [go_sem, j.e 4 k57_4, Joins.cell_of_block (blk_below b57_1 l) 0, Joins.cell_of_block (blk_below b57_1 l) 1, Joins.cell_of_block (blk_below b57_1 l) 2, Joins.cell_of_block (blk_below b57_1 l) 3, Joins.cell_of_block (blk_below b57_1 l) 4, Joins.cell_of_block (blk_below b57_1 l) 5, Joins.cell_of_block (blk_below b57_1 l) 6]) rfl,
  fun f s W l m p q r j => opv rfl rfl (by simp [go_sem, j.e 13 k57_13]) rfl,
  fun f s W l m p q r j => opv rfl rfl (by simp [go_sem, j.e 17 k57_17]) rfl,
  fun f s W l m p q r j => by have x := below_trans fB57 l; exact opc (args := #[.agg #[.int .i64 d.tab, .slice (x1) (d.panels.length) (y1), .int .i64 d.height, .slice (x2) (d.top.length) (y2), .slice (x3) (d.bottom.length) (y3), .int .i64 d.slot, .bool d.isOpen], .int .i64 ((i : Int)), .int .i64 hi2]) rfl rfl (by simp [go_sem, j.e 119 (m 4 rfl), j.e 120 (m 5 rfl), j.e 121 (m 6 rfl)]) (panR_any x1 x2 x3 y1 y2 y3 d i (i : Int) _ hi2 W (m1.below x (Nat.le_refl _)) (m2.below x (Nat.le_refl _)) (m3.below x (Nat.le_refl _)) rfl pd.1 rfl (by omega) (by omega) (by omega) (by omega)),
  fun f s W l m p q r j => opv rfl rfl (by simp [go_sem, j.e 17 k57_17]) rfl,
  fun f s W l m p q r j => opv rfl rfl (by simp [go_sem, j.e 123 (m 8 rfl), IntWalk.i64_in (2 * hi2) (by omega)]) rfl,
  fun f s W l m p q r j => opv rfl rfl (by simp [go_sem, j.e 122 (m 7 rfl), j.e 124 (m 9 rfl), IntWalk.i64_in ((panR d i hi2) + (2 * hi2)) (by omega)]) rfl,
  fun f s W l m p q r j => opv rfl rfl (by simp [go_sem, j.e 118 (m 3 rfl), j.e 125 (m 10 rfl), IntWalk.i64_in ((panR b i lo1) - ((panR d i hi2) + (2 * hi2))) (by omega)]) rfl,
  fun f s W l m p q r j => opv rfl rfl (by simp [go_sem, j.e 126 (m 11 rfl)]) rfl, trivial⟩ ?_
      intro f58 s58 W58 hB58 g58 hg58
      have fB58 := below_trans fB57 hB58.below
      have z58 := hB58.below.size
      have b58_0 := blk_below b57_0 hB58.below
      have b58_1 := blk_below b57_1 hB58.below
      have b58_2 := blk_below b57_2 hB58.below
      have b58_3 := blk_below b57_3 hB58.below
      have q138' := (q137'.below hB58.below (Nat.le_refl _))
      refine hK95 _ _ ?_
      have k58_3 := kt hg58 3 k57_3
      have k58_4 := kt hg58 4 k57_4
      have k58_5 := kt hg58 5 k57_5
      have k58_6 := kt hg58 6 k57_6
      have k58_9 := kt hg58 9 k57_9
      have k58_13 := kt hg58 13 k57_13
      have k58_14 := kt hg58 14 k57_14
      have k58_135 := kt hg58 135 k57_135
      have k58_15 := kt hg58 15 k57_15
      have k58_95 := kt hg58 95 k57_95
      have k58_16 := kt hg58 16 k57_16
      have k58_106 := kt hg58 106 k57_106
      have k58_111 := kt hg58 111 k57_111
      have k58_17 := kt hg58 17 k57_17
      have k58_18 := kt hg58 18 (hB58.is 12)
      refine region_dk 9 [(127, 0), (128, 1), (129, 2), (130, 3), (131, 4), (132, 5), (133, 6), (134, 7), (135, 8)] [[], [0], [], [0, 1, 2], [], [4], [], [4, 5, 6], [0, 1, 2, 3, 4, 5, 6, 7], [0, 1, 2, 3, 4, 5, 6, 7, 8]] (rel [is (.pointer (some ⟨(s33 1), 0, none⟩)),
   is (.int .i64 (min (min 1099511627776 ((panR b i lo1) - ((panR d i lo2) + (2 * lo2)))) ((panR b i hi1) - ((panR d i lo2) + (2 * lo2))))),
   is (.int .i64 ((panR b i lo1) - ((panR d i hi2) + (2 * hi2)))),
   is (.int .i64 (min (min (min 1099511627776 ((panR b i lo1) - ((panR d i lo2) + (2 * lo2)))) ((panR b i hi1) - ((panR d i lo2) + (2 * lo2)))) ((panR b i lo1) - ((panR d i hi2) + (2 * hi2))))),
   is (.pointer (some ⟨(s33 1), 1, none⟩)),
   is (.int .i64 (max (max (-1099511627776) ((panR b i lo1) - ((panR d i lo2) + (2 * lo2)))) ((panR b i hi1) - ((panR d i lo2) + (2 * lo2))))),
   is (.int .i64 ((panR b i lo1) - ((panR d i hi2) + (2 * hi2)))),
   is (.int .i64 (max (max (max (-1099511627776) ((panR b i lo1) - ((panR d i lo2) + (2 * lo2)))) ((panR b i hi1) - ((panR d i lo2) + (2 * lo2)))) ((panR b i lo1) - ((panR d i hi2) + (2 * hi2))))),
   is (.agg #[.int .i64 (min (min (min 1099511627776 ((panR b i lo1) - ((panR d i lo2) + (2 * lo2)))) ((panR b i hi1) - ((panR d i lo2) + (2 * lo2)))) ((panR b i lo1) - ((panR d i hi2) + (2 * hi2)))), .int .i64 (max (max (max (-1099511627776) ((panR b i lo1) - ((panR d i lo2) + (2 * lo2)))) ((panR b i hi1) - ((panR d i lo2) + (2 * lo2)))) ((panR b i lo1) - ((panR d i hi2) + (2 * hi2))))])])
       ⟨is_k, is_k, is_k, is_k, is_k, is_k, is_k, is_k, is_k, trivial⟩
       ⟨fun f s W l m p q r j => opv rfl rfl (by simp [go_sem, j.e 14 k58_14]) rfl,
  fun f s W l m p q r j => opv rfl rfl (by simp [go_sem, j.e 127 (m 0 rfl), Joins.cell_of_block (blk_below b58_3 l) 0]) rfl,
  fun f s W l m p q r j => opv rfl rfl (by simp [go_sem, j.e 18 k58_18]) rfl,
  fun f s W l m p q r j => opv rfl rfl (by simp [go_sem, j.e 128 (m 1 rfl), j.e 129 (m 2 rfl)]) rfl,
  fun f s W l m p q r j => opv rfl rfl (by simp [go_sem, j.e 14 k58_14]) rfl,
  fun f s W l m p q r j => opv rfl rfl (by simp [go_sem, j.e 131 (m 4 rfl), Joins.cell_of_block (blk_below b58_3 l) 1]) rfl,
  fun f s W l m p q r j => opv rfl rfl (by simp [go_sem, j.e 18 k58_18]) rfl,
  fun f s W l m p q r j => opv rfl rfl (by simp [go_sem, j.e 132 (m 5 rfl), j.e 133 (m 6 rfl)]) rfl,
  fun f s W l m p q r j => opc rfl rfl (by simp [go_sem, j.e 130 (m 3 rfl), j.e 134 (m 7 rfl)]) (span_any (min (min (min 1099511627776 ((panR b i lo1) - ((panR d i lo2) + (2 * lo2)))) ((panR b i hi1) - ((panR d i lo2) + (2 * lo2)))) ((panR b i lo1) - ((panR d i hi2) + (2 * hi2)))) (max (max (max (-1099511627776) ((panR b i lo1) - ((panR d i lo2) + (2 * lo2)))) ((panR b i hi1) - ((panR d i lo2) + (2 * lo2)))) ((panR b i lo1) - ((panR d i hi2) + (2 * hi2)))) W), trivial⟩ ?_
      intro f59 s59 W59 hB59 g59 hg59
      have fB59 := below_trans fB58 hB59.below
      have z59 := hB59.below.size
      have b59_0 := blk_below b58_0 hB59.below
      have b59_1 := blk_below b58_1 hB59.below
      have b59_2 := blk_below b58_2 hB59.below
      have b59_3 := blk_below b58_3 hB59.below
      have q139' := (q138'.below hB59.below (Nat.le_refl _))
      have k59_3 := kt hg59 3 k58_3
      have k59_4 := kt hg59 4 k58_4
      have k59_5 := kt hg59 5 k58_5
      have k59_6 := kt hg59 6 k58_6
      have k59_9 := kt hg59 9 k58_9
      have k59_13 := kt hg59 13 k58_13
      have k59_14 := kt hg59 14 k58_14
      have k59_15 := kt hg59 15 k58_15
      have k59_95 := kt hg59 95 k58_95
      have k59_16 := kt hg59 16 k58_16
      have k59_106 := kt hg59 106 k58_106
      have k59_111 := kt hg59 111 k58_111
      have k59_17 := kt hg59 17 k58_17
      have k59_18 := kt hg59 18 k58_18
      have k59_135 := kt hg59 135 (hB59.is 8)
      obtain ⟨W60, hW60⟩ : ∃ W', W' = W59.setRow (s33 1) #[.int .i64 (min (min (min 1099511627776 ((panR b i lo1) - ((panR d i lo2) + (2 * lo2)))) ((panR b i hi1) - ((panR d i lo2) + (2 * lo2)))) ((panR b i lo1) - ((panR d i hi2) + (2 * hi2)))), .int .i64 (max (max (max (-1099511627776) ((panR b i lo1) - ((panR d i lo2) + (2 * lo2)))) ((panR b i hi1) - ((panR d i lo2) + (2 * lo2)))) ((panR b i lo1) - ((panR d i hi2) + (2 * hi2))))] := ⟨_, rfl⟩
      refine tail_skip (o := _) rfl ⟨rfl, rfl⟩ (run_seg hW60 (fr_ev k59_14) (fr_ev k59_135) b59_3 rfl rfl rfl rfl) ?_
      obtain ⟨fB60, nb60, ot60, z60⟩ := seg_facts hW60 fB59 b59_3 (by omega)
      clear hW60
      have b60_0 := ot60 _ _ (by omega) b59_0
      have b60_1 := ot60 _ _ (by omega) b59_1
      have b60_2 := ot60 _ _ (by omega) b59_2
      have q140' := (q139'.otherA ot60 (fun g o e => by rw [hab] at e; cases e; omega) z60)
      refine wpOps_end ?_
      refine inBlock_normal ?_
      refine hK87 _ _ ?_
      refine region_dk 3 [(96, 0), (97, 1), (15, 2)] [[], [0], [0, 1]] (rel [is (.int .i64 2),
   is (.int .i64 3),
   is (.int .i64 3)])
       ⟨is_k, is_k, is_k, trivial⟩
       ⟨fun f s W l m p q r j => opv rfl rfl (by simp [go_sem, j.e 15 ((q 2 15 rfl rfl).trans k59_15)]) rfl,
  fun f s W l m p q r j => opv rfl rfl (by simp [go_sem, j.e 96 (m 0 rfl), IntWalk.i64_in (3) (by omega)]) rfl,
  fun f s W l m p q r j => opv rfl rfl (by simp [go_sem, j.e 97 (m 1 rfl)]) rfl, trivial⟩ ?_
      intro f61 s61 W61 hB61 g61 hg61
      have fB61 := below_trans fB60 hB61.below
      have z61 := hB61.below.size
      have b61_0 := blk_below b60_0 hB61.below
      have b61_1 := blk_below b60_1 hB61.below
      have b61_2 := blk_below b60_2 hB61.below
      have b61_3 := blk_below nb60 hB61.below
      have q141' := (q140'.below hB61.below (Nat.le_refl _))
      refine wpOps_end ?_
      have k61_3 := kt hg61 3 k59_3
      have k61_4 := kt hg61 4 k59_4
      have k61_5 := kt hg61 5 k59_5
      have k61_6 := kt hg61 6 k59_6
      have k61_9 := kt hg61 9 k59_9
      have k61_13 := kt hg61 13 k59_13
      have k61_14 := kt hg61 14 k59_14
      have k61_95 := kt hg61 95 k59_95
      have k61_16 := kt hg61 16 k59_16
      have k61_106 := kt hg61 106 k59_106
      have k61_111 := kt hg61 111 k59_111
      have k61_17 := kt hg61 17 k59_17
      have k61_18 := kt hg61 18 k59_18
      have k61_135 := kt hg61 135 k59_135
      have k61_15 := kt hg61 15 (hB61.is 2)
      refine then_normal ?_
      rw [rounds_succ]
      refine wp_seq_k fun K96 hK96 => ?_
      refine wp_seq_k fun K97 hK97 => ?_
      refine region_dk 2 [(94, 0), (95, 1)] [[], [0]] (rel [is (.int .i64 3),
   is (.bool true)])
       ⟨is_k, is_k, trivial⟩
       ⟨fun f s W l m p q r j => opv rfl rfl (by simp [go_sem, j.e 15 k61_15]) rfl,
  fun f s W l m p q r j => opv rfl rfl (by simp [go_sem, j.e 94 (m 0 rfl)]) rfl, trivial⟩ ?_
      intro f62 s62 W62 hB62 g62 hg62
      have fB62 := below_trans fB61 hB62.below
      have z62 := hB62.below.size
      have b62_0 := blk_below b61_0 hB62.below
      have b62_1 := blk_below b61_1 hB62.below
      have b62_2 := blk_below b61_2 hB62.below
      have b62_3 := blk_below b61_3 hB62.below
      have q142' := (q141'.below hB62.below (Nat.le_refl _))
      refine hK97 _ _ ?_
      have k62_3 := kt hg62 3 k61_3
      have k62_4 := kt hg62 4 k61_4
      have k62_5 := kt hg62 5 k61_5
      have k62_6 := kt hg62 6 k61_6
      have k62_9 := kt hg62 9 k61_9
      have k62_13 := kt hg62 13 k61_13
      have k62_14 := kt hg62 14 k61_14
      have k62_16 := kt hg62 16 k61_16
      have k62_106 := kt hg62 106 k61_106
      have k62_111 := kt hg62 111 k61_111
      have k62_17 := kt hg62 17 k61_17
      have k62_18 := kt hg62 18 k61_18
      have k62_135 := kt hg62 135 k61_135
      have k62_15 := kt hg62 15 k61_15
      have k62_95 := kt hg62 95 (hB62.is 1)
      refine wp_cond_true ((fr_eval rfl).trans k62_95) ?_
      refine wp_skip ?_
      refine hK96 _ _ ?_
      refine wp_seq_k fun K99 hK99 => ?_
      refine wp_block ?_
      refine wp_seq_k fun K100 hK100 => ?_
      refine region_dk 8 [(98, 0), (99, 1), (100, 2), (101, 3), (102, 4), (103, 5), (16, 6), (17, 7)] [[], [0], [0, 1], [], [3], [3, 4], [0, 1, 2], [0, 1, 2, 3, 4, 5, 6]] (rel [is (.pointer (some ⟨(s1 2), 0, none⟩)),
   is (.pointer (some ⟨(s1 2), 0, none⟩)),
   is (.int .i64 lo1),
   is (.pointer (some ⟨(s1 2), 2, none⟩)),
   is (.pointer (some ⟨(s1 2), 2, none⟩)),
   is (.int .i64 lo2),
   is (.int .i64 lo1),
   is (.int .i64 lo2)])
       ⟨is_k, is_k, is_k, is_k, is_k, is_k, is_k, is_k, trivial⟩
       ⟨fun f s W l m p q r j => opv rfl rfl (by simp [go_sem, j.e 5 k62_5]) rfl,
  fun f s W l m p q r j => opv rfl rfl (by simp [go_sem, j.e 98 (m 0 rfl)]) rfl,
  fun f s W l m p q r j => opv rfl rfl (by simp [go_sem, j.e 99 (m 1 rfl), Joins.cell_of_block (blk_below b62_2 l) 0]) rfl,
  fun f s W l m p q r j => opv rfl rfl (by simp [go_sem, j.e 5 k62_5]) rfl,
  fun f s W l m p q r j => opv rfl rfl (by simp [go_sem, j.e 101 (m 3 rfl)]) rfl,
  fun f s W l m p q r j => opv rfl rfl (by simp [go_sem, j.e 102 (m 4 rfl), Joins.cell_of_block (blk_below b62_2 l) 2]) rfl,
  fun f s W l m p q r j => opv rfl rfl (by simp [go_sem, j.e 100 (m 2 rfl)]) rfl,
  fun f s W l m p q r j => opv rfl rfl (by simp [go_sem, j.e 103 (m 5 rfl)]) rfl, trivial⟩ ?_
      intro f63 s63 W63 hB63 g63 hg63
      have fB63 := below_trans fB62 hB63.below
      have z63 := hB63.below.size
      have b63_0 := blk_below b62_0 hB63.below
      have b63_1 := blk_below b62_1 hB63.below
      have b63_2 := blk_below b62_2 hB63.below
      have b63_3 := blk_below b62_3 hB63.below
      have q143' := (q142'.below hB63.below (Nat.le_refl _))
      refine hK100 _ _ ?_
      have k63_3 := kt hg63 3 k62_3
      have k63_4 := kt hg63 4 k62_4
      have k63_5 := kt hg63 5 k62_5
      have k63_6 := kt hg63 6 k62_6
      have k63_9 := kt hg63 9 k62_9
      have k63_13 := kt hg63 13 k62_13
      have k63_14 := kt hg63 14 k62_14
      have k63_106 := kt hg63 106 k62_106
      have k63_111 := kt hg63 111 k62_111
      have k63_18 := kt hg63 18 k62_18
      have k63_135 := kt hg63 135 k62_135
      have k63_15 := kt hg63 15 k62_15
      have k63_95 := kt hg63 95 k62_95
      have k63_16 := kt hg63 16 (hB63.is 6)
      have k63_17 := kt hg63 17 (hB63.is 7)
      refine wp_seq_k fun K101 hK101 => ?_
      refine wp_seq_k fun K102 hK102 => ?_
      refine region_dk 3 [(104, 0), (105, 1), (106, 2)] [[], [0], [0, 1]] (rel [is (.int .i64 3),
   is (.int .i64 1),
   is (.bool true)])
       ⟨is_k, is_k, is_k, trivial⟩
       ⟨fun f s W l m p q r j => opv rfl rfl (by simp [go_sem, j.e 15 k63_15]) rfl,
  fun f s W l m p q r j => opv rfl rfl (by simp [go_sem, j.e 104 (m 0 rfl)]) rfl,
  fun f s W l m p q r j => opv rfl rfl (by simp [go_sem, j.e 105 (m 1 rfl)]) rfl, trivial⟩ ?_
      intro f64 s64 W64 hB64 g64 hg64
      have fB64 := below_trans fB63 hB64.below
      have z64 := hB64.below.size
      have b64_0 := blk_below b63_0 hB64.below
      have b64_1 := blk_below b63_1 hB64.below
      have b64_2 := blk_below b63_2 hB64.below
      have b64_3 := blk_below b63_3 hB64.below
      have q144' := (q143'.below hB64.below (Nat.le_refl _))
      refine hK102 _ _ ?_
      have k64_3 := kt hg64 3 k63_3
      have k64_4 := kt hg64 4 k63_4
      have k64_5 := kt hg64 5 k63_5
      have k64_6 := kt hg64 6 k63_6
      have k64_9 := kt hg64 9 k63_9
      have k64_13 := kt hg64 13 k63_13
      have k64_14 := kt hg64 14 k63_14
      have k64_111 := kt hg64 111 k63_111
      have k64_18 := kt hg64 18 k63_18
      have k64_135 := kt hg64 135 k63_135
      have k64_15 := kt hg64 15 k63_15
      have k64_95 := kt hg64 95 k63_95
      have k64_16 := kt hg64 16 k63_16
      have k64_17 := kt hg64 17 k63_17
      have k64_106 := kt hg64 106 (hB64.is 2)
      refine wp_cond_true ((fr_eval rfl).trans k64_106) ?_
      refine region_dk 4 [(107, 0), (108, 1), (109, 2), (16, 3)] [[], [0], [0, 1], [0, 1, 2]] (rel [is (.pointer (some ⟨(s1 2), 0, none⟩)),
   is (.pointer (some ⟨(s1 2), 1, none⟩)),
   is (.int .i64 hi1),
   is (.int .i64 hi1)])
       ⟨is_k, is_k, is_k, is_k, trivial⟩
       ⟨fun f s W l m p q r j => opv rfl rfl (by simp [go_sem, j.e 5 k64_5]) rfl,
  fun f s W l m p q r j => opv rfl rfl (by simp [go_sem, j.e 107 (m 0 rfl)]) rfl,
  fun f s W l m p q r j => opv rfl rfl (by simp [go_sem, j.e 108 (m 1 rfl), Joins.cell_of_block (blk_below b64_2 l) 1]) rfl,
  fun f s W l m p q r j => opv rfl rfl (by simp [go_sem, j.e 109 (m 2 rfl)]) rfl, trivial⟩ ?_
      intro f65 s65 W65 hB65 g65 hg65
      have fB65 := below_trans fB64 hB65.below
      have z65 := hB65.below.size
      have b65_0 := blk_below b64_0 hB65.below
      have b65_1 := blk_below b64_1 hB65.below
      have b65_2 := blk_below b64_2 hB65.below
      have b65_3 := blk_below b64_3 hB65.below
      have q145' := (q144'.below hB65.below (Nat.le_refl _))
      refine hK101 _ _ ?_
      have k65_3 := kt hg65 3 k64_3
      have k65_4 := kt hg65 4 k64_4
      have k65_5 := kt hg65 5 k64_5
      have k65_6 := kt hg65 6 k64_6
      have k65_9 := kt hg65 9 k64_9
      have k65_13 := kt hg65 13 k64_13
      have k65_14 := kt hg65 14 k64_14
      have k65_111 := kt hg65 111 k64_111
      have k65_18 := kt hg65 18 k64_18
      have k65_135 := kt hg65 135 k64_135
      have k65_15 := kt hg65 15 k64_15
      have k65_95 := kt hg65 95 k64_95
      have k65_17 := kt hg65 17 k64_17
      have k65_106 := kt hg65 106 k64_106
      have k65_16 := kt hg65 16 (hB65.is 3)
      refine wp_seq_k fun K104 hK104 => ?_
      refine wp_seq_k fun K105 hK105 => ?_
      refine region_dk 2 [(110, 0), (111, 1)] [[], [0]] (rel [is (.int .i64 3),
   is (.bool true)])
       ⟨is_k, is_k, trivial⟩
       ⟨fun f s W l m p q r j => opv rfl rfl (by simp [go_sem, j.e 15 k65_15]) rfl,
  fun f s W l m p q r j => opv rfl rfl (by simp [go_sem, j.e 110 (m 0 rfl)]) rfl, trivial⟩ ?_
      intro f66 s66 W66 hB66 g66 hg66
      have fB66 := below_trans fB65 hB66.below
      have z66 := hB66.below.size
      have b66_0 := blk_below b65_0 hB66.below
      have b66_1 := blk_below b65_1 hB66.below
      have b66_2 := blk_below b65_2 hB66.below
      have b66_3 := blk_below b65_3 hB66.below
      have q146' := (q145'.below hB66.below (Nat.le_refl _))
      refine hK105 _ _ ?_
      have k66_3 := kt hg66 3 k65_3
      have k66_4 := kt hg66 4 k65_4
      have k66_5 := kt hg66 5 k65_5
      have k66_6 := kt hg66 6 k65_6
      have k66_9 := kt hg66 9 k65_9
      have k66_13 := kt hg66 13 k65_13
      have k66_14 := kt hg66 14 k65_14
      have k66_18 := kt hg66 18 k65_18
      have k66_135 := kt hg66 135 k65_135
      have k66_15 := kt hg66 15 k65_15
      have k66_95 := kt hg66 95 k65_95
      have k66_17 := kt hg66 17 k65_17
      have k66_106 := kt hg66 106 k65_106
      have k66_16 := kt hg66 16 k65_16
      have k66_111 := kt hg66 111 (hB66.is 1)
      refine wp_cond_true ((fr_eval rfl).trans k66_111) ?_
      refine region_dk 4 [(112, 0), (113, 1), (114, 2), (17, 3)] [[], [0], [0, 1], [0, 1, 2]] (rel [is (.pointer (some ⟨(s1 2), 2, none⟩)),
   is (.pointer (some ⟨(s1 2), 3, none⟩)),
   is (.int .i64 hi2),
   is (.int .i64 hi2)])
       ⟨is_k, is_k, is_k, is_k, trivial⟩
       ⟨fun f s W l m p q r j => opv rfl rfl (by simp [go_sem, j.e 5 k66_5]) rfl,
  fun f s W l m p q r j => opv rfl rfl (by simp [go_sem, j.e 112 (m 0 rfl)]) rfl,
  fun f s W l m p q r j => opv rfl rfl (by simp [go_sem, j.e 113 (m 1 rfl), Joins.cell_of_block (blk_below b66_2 l) 3]) rfl,
  fun f s W l m p q r j => opv rfl rfl (by simp [go_sem, j.e 114 (m 2 rfl)]) rfl, trivial⟩ ?_
      intro f67 s67 W67 hB67 g67 hg67
      have fB67 := below_trans fB66 hB67.below
      have z67 := hB67.below.size
      have b67_0 := blk_below b66_0 hB67.below
      have b67_1 := blk_below b66_1 hB67.below
      have b67_2 := blk_below b66_2 hB67.below
      have b67_3 := blk_below b66_3 hB67.below
      have q147' := (q146'.below hB67.below (Nat.le_refl _))
      refine hK104 _ _ ?_
      have k67_3 := kt hg67 3 k66_3
      have k67_4 := kt hg67 4 k66_4
      have k67_5 := kt hg67 5 k66_5
      have k67_6 := kt hg67 6 k66_6
      have k67_9 := kt hg67 9 k66_9
      have k67_13 := kt hg67 13 k66_13
      have k67_14 := kt hg67 14 k66_14
      have k67_18 := kt hg67 18 k66_18
      have k67_135 := kt hg67 135 k66_135
      have k67_15 := kt hg67 15 k66_15
      have k67_95 := kt hg67 95 k66_95
      have k67_106 := kt hg67 106 k66_106
      have k67_16 := kt hg67 16 k66_16
      have k67_111 := kt hg67 111 k66_111
      have k67_17 := kt hg67 17 (hB67.is 3)
      refine wp_seq_k fun K107 hK107 => ?_
      refine region_dk 13 [(115, 0), (116, 1), (117, 2), (118, 3), (119, 4), (120, 5), (121, 6), (122, 7), (123, 8), (124, 9), (125, 10), (126, 11), (18, 12)] [[], [], [], [0, 1, 2], [], [], [], [0, 1, 2, 3, 4, 5, 6], [], [8], [0, 1, 2, 3, 4, 5, 6, 7, 8, 9], [0, 1, 2, 3, 4, 5, 6, 7, 8, 9, 10], [0, 1, 2, 3, 4, 5, 6, 7, 8, 9, 10, 11]] (rel [is (.agg #[.int .i64 b.tab, .slice (a1) (b.panels.length) (c1), .int .i64 b.height, .slice (a2) (b.top.length) (c2), .slice (a3) (b.bottom.length) (c3), .int .i64 b.slot, .bool b.isOpen]),
   is (.int .i64 ((i : Int))),
   is (.int .i64 hi1),
   is (.int .i64 ((panR b i hi1))),
   is (.agg #[.int .i64 d.tab, .slice (x1) (d.panels.length) (y1), .int .i64 d.height, .slice (x2) (d.top.length) (y2), .slice (x3) (d.bottom.length) (y3), .int .i64 d.slot, .bool d.isOpen]),
   is (.int .i64 ((i : Int))),
   is (.int .i64 hi2),
   is (.int .i64 ((panR d i hi2))),
   is (.int .i64 hi2),
   is (.int .i64 (2 * hi2)),
   is (.int .i64 ((panR d i hi2) + (2 * hi2))),
   is (.int .i64 ((panR b i hi1) - ((panR d i hi2) + (2 * hi2)))),
   is (.int .i64 ((panR b i hi1) - ((panR d i hi2) + (2 * hi2))))])
       ⟨is_k, is_k, is_k, is_k, is_k, is_k, is_k, is_k, is_k, is_k, is_k, is_k, is_k, trivial⟩
       ⟨fun f s W l m p q r j => opv rfl rfl (by simp [go_sem, j.e 3 k67_3, Joins.cell_of_block (blk_below b67_0 l) 0, Joins.cell_of_block (blk_below b67_0 l) 1, Joins.cell_of_block (blk_below b67_0 l) 2, Joins.cell_of_block (blk_below b67_0 l) 3, Joins.cell_of_block (blk_below b67_0 l) 4, Joins.cell_of_block (blk_below b67_0 l) 5, Joins.cell_of_block (blk_below b67_0 l) 6]) rfl,
  fun f s W l m p q r j => opv rfl rfl (by simp [go_sem, j.e 13 k67_13]) rfl,
  fun f s W l m p q r j => opv rfl rfl (by simp [go_sem, j.e 16 k67_16]) rfl,
  fun f s W l m p q r j => by have x := below_trans fB67 l; exact opc (args := #[.agg #[.int .i64 b.tab, .slice (a1) (b.panels.length) (c1), .int .i64 b.height, .slice (a2) (b.top.length) (c2), .slice (a3) (b.bottom.length) (c3), .int .i64 b.slot, .bool b.isOpen], .int .i64 ((i : Int)), .int .i64 hi1]) rfl rfl (by simp [go_sem, j.e 115 (m 0 rfl), j.e 116 (m 1 rfl), j.e 117 (m 2 rfl)]) (panR_any a1 a2 a3 c1 c2 c3 b i (i : Int) _ hi1 W (h1.below x (Nat.le_refl _)) (h2.below x (Nat.le_refl _)) (h3.below x (Nat.le_refl _)) rfl pb.1 rfl (by omega) (by omega) (by omega) (by omega)),
  fun f s W l m p q r j => opv rfl rfl (by simp [go_sem, j.e 4 k67_4, Joins.cell_of_block (blk_below b67_1 l) 0, Joins.cell_of_block (blk_below b67_1 l) 1, Joins.cell_of_block (blk_below b67_1 l) 2, Joins.cell_of_block (blk_below b67_1 l) 3, Joins.cell_of_block (blk_below b67_1 l) 4, Joins.cell_of_block (blk_below b67_1 l) 5, Joins.cell_of_block (blk_below b67_1 l) 6]) rfl,
  fun f s W l m p q r j => opv rfl rfl (by simp [go_sem, j.e 13 k67_13]) rfl,
  fun f s W l m p q r j => opv rfl rfl (by simp [go_sem, j.e 17 k67_17]) rfl,
  fun f s W l m p q r j => by have x := below_trans fB67 l; exact opc (args := #[.agg #[.int .i64 d.tab, .slice (x1) (d.panels.length) (y1), .int .i64 d.height, .slice (x2) (d.top.length) (y2), .slice (x3) (d.bottom.length) (y3), .int .i64 d.slot, .bool d.isOpen], .int .i64 ((i : Int)), .int .i64 hi2]) rfl rfl (by simp [go_sem, j.e 119 (m 4 rfl), j.e 120 (m 5 rfl), j.e 121 (m 6 rfl)]) (panR_any x1 x2 x3 y1 y2 y3 d i (i : Int) _ hi2 W (m1.below x (Nat.le_refl _)) (m2.below x (Nat.le_refl _)) (m3.below x (Nat.le_refl _)) rfl pd.1 rfl (by omega) (by omega) (by omega) (by omega)),
  fun f s W l m p q r j => opv rfl rfl (by simp [go_sem, j.e 17 k67_17]) rfl,
  fun f s W l m p q r j => opv rfl rfl (by simp [go_sem, j.e 123 (m 8 rfl), IntWalk.i64_in (2 * hi2) (by omega)]) rfl,
  fun f s W l m p q r j => opv rfl rfl (by simp [go_sem, j.e 122 (m 7 rfl), j.e 124 (m 9 rfl), IntWalk.i64_in ((panR d i hi2) + (2 * hi2)) (by omega)]) rfl,
  fun f s W l m p q r j => opv rfl rfl (by simp [go_sem, j.e 118 (m 3 rfl), j.e 125 (m 10 rfl), IntWalk.i64_in ((panR b i hi1) - ((panR d i hi2) + (2 * hi2))) (by omega)]) rfl,
  fun f s W l m p q r j => opv rfl rfl (by simp [go_sem, j.e 126 (m 11 rfl)]) rfl, trivial⟩ ?_
      intro f68 s68 W68 hB68 g68 hg68
      have fB68 := below_trans fB67 hB68.below
      have z68 := hB68.below.size
      have b68_0 := blk_below b67_0 hB68.below
      have b68_1 := blk_below b67_1 hB68.below
      have b68_2 := blk_below b67_2 hB68.below
      have b68_3 := blk_below b67_3 hB68.below
      have q148' := (q147'.below hB68.below (Nat.le_refl _))
      refine hK107 _ _ ?_
      have k68_3 := kt hg68 3 k67_3
      have k68_4 := kt hg68 4 k67_4
      have k68_5 := kt hg68 5 k67_5
      have k68_6 := kt hg68 6 k67_6
      have k68_9 := kt hg68 9 k67_9
      have k68_13 := kt hg68 13 k67_13
      have k68_14 := kt hg68 14 k67_14
      have k68_135 := kt hg68 135 k67_135
      have k68_15 := kt hg68 15 k67_15
      have k68_95 := kt hg68 95 k67_95
      have k68_106 := kt hg68 106 k67_106
      have k68_16 := kt hg68 16 k67_16
      have k68_111 := kt hg68 111 k67_111
      have k68_17 := kt hg68 17 k67_17
      have k68_18 := kt hg68 18 (hB68.is 12)
      refine region_dk 9 [(127, 0), (128, 1), (129, 2), (130, 3), (131, 4), (132, 5), (133, 6), (134, 7), (135, 8)] [[], [0], [], [0, 1, 2], [], [4], [], [4, 5, 6], [0, 1, 2, 3, 4, 5, 6, 7], [0, 1, 2, 3, 4, 5, 6, 7, 8]] (rel [is (.pointer (some ⟨(s33 1), 0, none⟩)),
   is (.int .i64 (min (min (min 1099511627776 ((panR b i lo1) - ((panR d i lo2) + (2 * lo2)))) ((panR b i hi1) - ((panR d i lo2) + (2 * lo2)))) ((panR b i lo1) - ((panR d i hi2) + (2 * hi2))))),
   is (.int .i64 ((panR b i hi1) - ((panR d i hi2) + (2 * hi2)))),
   is (.int .i64 (min (min (min (min 1099511627776 ((panR b i lo1) - ((panR d i lo2) + (2 * lo2)))) ((panR b i hi1) - ((panR d i lo2) + (2 * lo2)))) ((panR b i lo1) - ((panR d i hi2) + (2 * hi2)))) ((panR b i hi1) - ((panR d i hi2) + (2 * hi2))))),
   is (.pointer (some ⟨(s33 1), 1, none⟩)),
   is (.int .i64 (max (max (max (-1099511627776) ((panR b i lo1) - ((panR d i lo2) + (2 * lo2)))) ((panR b i hi1) - ((panR d i lo2) + (2 * lo2)))) ((panR b i lo1) - ((panR d i hi2) + (2 * hi2))))),
   is (.int .i64 ((panR b i hi1) - ((panR d i hi2) + (2 * hi2)))),
   is (.int .i64 (max (max (max (max (-1099511627776) ((panR b i lo1) - ((panR d i lo2) + (2 * lo2)))) ((panR b i hi1) - ((panR d i lo2) + (2 * lo2)))) ((panR b i lo1) - ((panR d i hi2) + (2 * hi2)))) ((panR b i hi1) - ((panR d i hi2) + (2 * hi2))))),
   is (.agg #[.int .i64 (min (min (min (min 1099511627776 ((panR b i lo1) - ((panR d i lo2) + (2 * lo2)))) ((panR b i hi1) - ((panR d i lo2) + (2 * lo2)))) ((panR b i lo1) - ((panR d i hi2) + (2 * hi2)))) ((panR b i hi1) - ((panR d i hi2) + (2 * hi2)))), .int .i64 (max (max (max (max (-1099511627776) ((panR b i lo1) - ((panR d i lo2) + (2 * lo2)))) ((panR b i hi1) - ((panR d i lo2) + (2 * lo2)))) ((panR b i lo1) - ((panR d i hi2) + (2 * hi2)))) ((panR b i hi1) - ((panR d i hi2) + (2 * hi2))))])])
       ⟨is_k, is_k, is_k, is_k, is_k, is_k, is_k, is_k, is_k, trivial⟩
       ⟨fun f s W l m p q r j => opv rfl rfl (by simp [go_sem, j.e 14 k68_14]) rfl,
  fun f s W l m p q r j => opv rfl rfl (by simp [go_sem, j.e 127 (m 0 rfl), Joins.cell_of_block (blk_below b68_3 l) 0]) rfl,
  fun f s W l m p q r j => opv rfl rfl (by simp [go_sem, j.e 18 k68_18]) rfl,
  fun f s W l m p q r j => opv rfl rfl (by simp [go_sem, j.e 128 (m 1 rfl), j.e 129 (m 2 rfl)]) rfl,
  fun f s W l m p q r j => opv rfl rfl (by simp [go_sem, j.e 14 k68_14]) rfl,
  fun f s W l m p q r j => opv rfl rfl (by simp [go_sem, j.e 131 (m 4 rfl), Joins.cell_of_block (blk_below b68_3 l) 1]) rfl,
  fun f s W l m p q r j => opv rfl rfl (by simp [go_sem, j.e 18 k68_18]) rfl,
  fun f s W l m p q r j => opv rfl rfl (by simp [go_sem, j.e 132 (m 5 rfl), j.e 133 (m 6 rfl)]) rfl,
  fun f s W l m p q r j => opc rfl rfl (by simp [go_sem, j.e 130 (m 3 rfl), j.e 134 (m 7 rfl)]) (span_any (min (min (min (min 1099511627776 ((panR b i lo1) - ((panR d i lo2) + (2 * lo2)))) ((panR b i hi1) - ((panR d i lo2) + (2 * lo2)))) ((panR b i lo1) - ((panR d i hi2) + (2 * hi2)))) ((panR b i hi1) - ((panR d i hi2) + (2 * hi2)))) (max (max (max (max (-1099511627776) ((panR b i lo1) - ((panR d i lo2) + (2 * lo2)))) ((panR b i hi1) - ((panR d i lo2) + (2 * lo2)))) ((panR b i lo1) - ((panR d i hi2) + (2 * hi2)))) ((panR b i hi1) - ((panR d i hi2) + (2 * hi2)))) W), trivial⟩ ?_
      intro f69 s69 W69 hB69 g69 hg69
      have fB69 := below_trans fB68 hB69.below
      have z69 := hB69.below.size
      have b69_0 := blk_below b68_0 hB69.below
      have b69_1 := blk_below b68_1 hB69.below
      have b69_2 := blk_below b68_2 hB69.below
      have b69_3 := blk_below b68_3 hB69.below
      have q149' := (q148'.below hB69.below (Nat.le_refl _))
      have k69_3 := kt hg69 3 k68_3
      have k69_4 := kt hg69 4 k68_4
      have k69_5 := kt hg69 5 k68_5
      have k69_6 := kt hg69 6 k68_6
      have k69_9 := kt hg69 9 k68_9
      have k69_13 := kt hg69 13 k68_13
      have k69_14 := kt hg69 14 k68_14
      have k69_15 := kt hg69 15 k68_15
      have k69_95 := kt hg69 95 k68_95
      have k69_106 := kt hg69 106 k68_106
      have k69_16 := kt hg69 16 k68_16
      have k69_111 := kt hg69 111 k68_111
      have k69_17 := kt hg69 17 k68_17
      have k69_18 := kt hg69 18 k68_18
      have k69_135 := kt hg69 135 (hB69.is 8)
      obtain ⟨W70, hW70⟩ : ∃ W', W' = W69.setRow (s33 1) #[.int .i64 (min (min (min (min 1099511627776 ((panR b i lo1) - ((panR d i lo2) + (2 * lo2)))) ((panR b i hi1) - ((panR d i lo2) + (2 * lo2)))) ((panR b i lo1) - ((panR d i hi2) + (2 * hi2)))) ((panR b i hi1) - ((panR d i hi2) + (2 * hi2)))), .int .i64 (max (max (max (max (-1099511627776) ((panR b i lo1) - ((panR d i lo2) + (2 * lo2)))) ((panR b i hi1) - ((panR d i lo2) + (2 * lo2)))) ((panR b i lo1) - ((panR d i hi2) + (2 * hi2)))) ((panR b i hi1) - ((panR d i hi2) + (2 * hi2))))] := ⟨_, rfl⟩
      refine tail_skip (o := _) rfl ⟨rfl, rfl⟩ (run_seg hW70 (fr_ev k69_14) (fr_ev k69_135) b69_3 rfl rfl rfl rfl) ?_
      obtain ⟨fB70, nb70, ot70, z70⟩ := seg_facts hW70 fB69 b69_3 (by omega)
      clear hW70
      have b70_0 := ot70 _ _ (by omega) b69_0
      have b70_1 := ot70 _ _ (by omega) b69_1
      have b70_2 := ot70 _ _ (by omega) b69_2
      have q150' := (q149'.otherA ot70 (fun g o e => by rw [hab] at e; cases e; omega) z70)
      refine wpOps_end ?_
      refine inBlock_normal ?_
      refine hK99 _ _ ?_
      refine region_dk 3 [(96, 0), (97, 1), (15, 2)] [[], [0], [0, 1]] (rel [is (.int .i64 3),
   is (.int .i64 4),
   is (.int .i64 4)])
       ⟨is_k, is_k, is_k, trivial⟩
       ⟨fun f s W l m p q r j => opv rfl rfl (by simp [go_sem, j.e 15 ((q 2 15 rfl rfl).trans k69_15)]) rfl,
  fun f s W l m p q r j => opv rfl rfl (by simp [go_sem, j.e 96 (m 0 rfl), IntWalk.i64_in (4) (by omega)]) rfl,
  fun f s W l m p q r j => opv rfl rfl (by simp [go_sem, j.e 97 (m 1 rfl)]) rfl, trivial⟩ ?_
      intro f71 s71 W71 hB71 g71 hg71
      have fB71 := below_trans fB70 hB71.below
      have z71 := hB71.below.size
      have b71_0 := blk_below b70_0 hB71.below
      have b71_1 := blk_below b70_1 hB71.below
      have b71_2 := blk_below b70_2 hB71.below
      have b71_3 := blk_below nb70 hB71.below
      have q151' := (q150'.below hB71.below (Nat.le_refl _))
      refine wpOps_end ?_
      have k71_3 := kt hg71 3 k69_3
      have k71_4 := kt hg71 4 k69_4
      have k71_5 := kt hg71 5 k69_5
      have k71_6 := kt hg71 6 k69_6
      have k71_9 := kt hg71 9 k69_9
      have k71_13 := kt hg71 13 k69_13
      have k71_14 := kt hg71 14 k69_14
      have k71_95 := kt hg71 95 k69_95
      have k71_106 := kt hg71 106 k69_106
      have k71_16 := kt hg71 16 k69_16
      have k71_111 := kt hg71 111 k69_111
      have k71_17 := kt hg71 17 k69_17
      have k71_18 := kt hg71 18 k69_18
      have k71_135 := kt hg71 135 k69_135
      have k71_15 := kt hg71 15 (hB71.is 2)
      refine then_normal ?_
      rw [rounds_succ]
      refine wp_seq_k fun K108 hK108 => ?_
      refine wp_seq_k fun K109 hK109 => ?_
      refine region_dk 2 [(94, 0), (95, 1)] [[], [0]] (rel [is (.int .i64 4),
   is (.bool false)])
       ⟨is_k, is_k, trivial⟩
       ⟨fun f s W l m p q r j => opv rfl rfl (by simp [go_sem, j.e 15 k71_15]) rfl,
  fun f s W l m p q r j => opv rfl rfl (by simp [go_sem, j.e 94 (m 0 rfl)]) rfl, trivial⟩ ?_
      intro f72 s72 W72 hB72 g72 hg72
      have fB72 := below_trans fB71 hB72.below
      have z72 := hB72.below.size
      have b72_0 := blk_below b71_0 hB72.below
      have b72_1 := blk_below b71_1 hB72.below
      have b72_2 := blk_below b71_2 hB72.below
      have b72_3 := blk_below b71_3 hB72.below
      have q152' := (q151'.below hB72.below (Nat.le_refl _))
      refine hK109 _ _ ?_
      have k72_3 := kt hg72 3 k71_3
      have k72_4 := kt hg72 4 k71_4
      have k72_5 := kt hg72 5 k71_5
      have k72_6 := kt hg72 6 k71_6
      have k72_9 := kt hg72 9 k71_9
      have k72_13 := kt hg72 13 k71_13
      have k72_14 := kt hg72 14 k71_14
      have k72_106 := kt hg72 106 k71_106
      have k72_16 := kt hg72 16 k71_16
      have k72_111 := kt hg72 111 k71_111
      have k72_17 := kt hg72 17 k71_17
      have k72_18 := kt hg72 18 k71_18
      have k72_135 := kt hg72 135 k71_135
      have k72_15 := kt hg72 15 k71_15
      have k72_95 := kt hg72 95 (hB72.is 1)
      refine wp_cond_false ((fr_eval rfl).trans k72_95) ?_
      refine wp_exit ?_
      refine then_exit ?_
      refine then_exit ?_
      refine inBlock_at ?_
      refine hK58 _ _ ?_
      refine wp_seq_k fun K111 hK111 => ?_
      refine region_dk 6 [(136, 0), (137, 1), (138, 2), (139, 3), (140, 4), (141, 5)] [[], [], [0, 1], [0, 1, 2], [], [0, 1, 2, 3, 4]] (rel [is (.slice (a70') (L.length) (c71')),
   is (.int .i64 ((i : Int))),
   is (.pointer (some ⟨bq, oq + i * 2, none⟩)),
   is (.agg #[.int .i64 ((playA b d hi1 hi2 i)), .int .i64 ((playA b d lo1 lo2 i))]),
   is (.agg #[.int .i64 (min (min (min (min 1099511627776 ((panR b i lo1) - ((panR d i lo2) + (2 * lo2)))) ((panR b i hi1) - ((panR d i lo2) + (2 * lo2)))) ((panR b i lo1) - ((panR d i hi2) + (2 * hi2)))) ((panR b i hi1) - ((panR d i hi2) + (2 * hi2)))), .int .i64 (max (max (max (max (-1099511627776) ((panR b i lo1) - ((panR d i lo2) + (2 * lo2)))) ((panR b i hi1) - ((panR d i lo2) + (2 * lo2)))) ((panR b i lo1) - ((panR d i hi2) + (2 * hi2)))) ((panR b i hi1) - ((panR d i hi2) + (2 * hi2))))]),
   is (.bool false)])
       ⟨is_k, is_k, is_k, is_k, is_k, is_k, trivial⟩
       ⟨fun f s W l m p q r j => opv rfl rfl (by simp [go_sem, j.e 9 k72_9]) rfl,
  fun f s W l m p q r j => opv rfl rfl (by simp [go_sem, j.e 13 k72_13]) rfl,
  fun f s W l m p q r j => opv rfl rfl (by simp [go_sem, j.e 136 (m 0 rfl), j.e 137 (m 1 rfl), hab, li4, hL4']) rfl,
  fun f s W l m p q r j => by have cu := pp_at (i := i) (u := playA b d hi1 hi2 i) (v := playA b d lo1 lo2 i) (q152'.below l (Nat.le_refl _)) hab (by omega) (by rw [hLP]; exact playL_at hckb hckd hi); have cx_ := cu.1; have cy_ := cu.2; exact opv rfl rfl (by simp [go_sem, j.e 138 (m 2 rfl), cx_, cy_]) rfl,
  fun f s W l m p q r j => opv rfl rfl (by simp [go_sem, j.e 14 k72_14, Joins.cell_of_block (blk_below b72_3 l) 0, Joins.cell_of_block (blk_below b72_3 l) 1]) rfl,
  fun f s W l m p q r j => by have hpA : (playA b d hi1 hi2 i) = min (min (min (min 1099511627776 ((panR b i lo1) - ((panR d i lo2) + (2 * lo2)))) ((panR b i hi1) - ((panR d i lo2) + (2 * lo2)))) ((panR b i lo1) - ((panR d i hi2) + (2 * hi2)))) ((panR b i hi1) - ((panR d i hi2) + (2 * hi2))) := (by unfold playA; omega); have hpB : (playA b d lo1 lo2 i) = max (max (max (max (-1099511627776) ((panR b i lo1) - ((panR d i lo2) + (2 * lo2)))) ((panR b i hi1) - ((panR d i lo2) + (2 * lo2)))) ((panR b i lo1) - ((panR d i hi2) + (2 * hi2)))) ((panR b i hi1) - ((panR d i hi2) + (2 * hi2))) := (by unfold playA; omega); exact opv rfl rfl (by simp [go_sem, j.e 139 (m 3 rfl), j.e 140 (m 4 rfl), hpA, hpB]) rfl, trivial⟩ ?_
      intro f73 s73 W73 hB73 g73 hg73
      have fB73 := below_trans fB72 hB73.below
      have z73 := hB73.below.size
      have b73_0 := blk_below b72_0 hB73.below
      have b73_1 := blk_below b72_1 hB73.below
      have b73_2 := blk_below b72_2 hB73.below
      have b73_3 := blk_below b72_3 hB73.below
      have q153' := (q152'.below hB73.below (Nat.le_refl _))
      refine hK111 _ _ ?_
      have k73_3 := kt hg73 3 k72_3
      have k73_4 := kt hg73 4 k72_4
      have k73_5 := kt hg73 5 k72_5
      have k73_6 := kt hg73 6 k72_6
      have k73_9 := kt hg73 9 k72_9
      have k73_13 := kt hg73 13 k72_13
      have k73_141 := kt hg73 141 (hB73.is 5)
      refine wp_cond_false ((fr_eval rfl).trans k73_141) ?_
      refine wp_skip ?_
      refine inBlock_normal ?_
      refine hK56 _ _ ?_
      refine region_dk 3 [(91, 0), (92, 1), (13, 2)] [[], [0], [0, 1]] (rel [is (.int .i64 ((i : Int))),
   is (.int .i64 ((i : Int) + 1)),
   is (.int .i64 ((i : Int) + 1))])
       ⟨is_k, is_k, is_k, trivial⟩
       ⟨fun f s W l m p q r j => opv rfl rfl (by simp [go_sem, j.e 13 ((q 2 13 rfl rfl).trans k73_13)]) rfl,
  fun f s W l m p q r j => opv rfl rfl (by simp [go_sem, j.e 91 (m 0 rfl), IntWalk.i64_in ((i : Int) + 1) (by omega)]) rfl,
  fun f s W l m p q r j => opv rfl rfl (by simp [go_sem, j.e 92 (m 1 rfl)]) rfl, trivial⟩ ?_
      intro f74 s74 W74 hB74 g74 hg74
      have fB74 := below_trans fB73 hB74.below
      have z74 := hB74.below.size
      have b74_0 := blk_below b73_0 hB74.below
      have b74_1 := blk_below b73_1 hB74.below
      have b74_2 := blk_below b73_2 hB74.below
      have b74_3 := blk_below b73_3 hB74.below
      have q154' := (q153'.below hB74.below (Nat.le_refl _))
      refine wpOps_end ?_
      have k74_3 := kt hg74 3 k73_3
      have k74_4 := kt hg74 4 k73_4
      have k74_5 := kt hg74 5 k73_5
      have k74_6 := kt hg74 6 k73_6
      have k74_9 := kt hg74 9 k73_9
      have k74_13 := kt hg74 13 (hB74.is 2)
      refine then_normal ?_
      exact ⟨_, by omega, g74, rfl, i + 1, rfl, k74_3, k74_4, k74_5, k74_6, k74_9, k74_13.trans (by go_num), fB74, (by omega), b74_0, b74_1, b74_2, q154', (by omega)⟩
     ·
      have hc55' := hc55; try simp only [decide_eq_true_eq, decide_eq_false_iff_not, Bool.and_eq_true, Bool.or_eq_true, Bool.and_eq_false_iff, Bool.or_eq_false_iff, beq_iff_eq, bne_iff_ne, Bool.not_eq_true', Bool.not_eq_false', ne_eq, bne_eq_false_iff_eq, beq_eq_false_iff_ne] at hc55'
      refine wp_exit ?_
      refine then_exit ?_
      refine then_exit ?_
      refine inBlock_at ?_
      refine hK51 _ _ ?_
      refine wp_seq_k fun K113 hK113 => ?_
      refine region_dk 2 [(142, 0), (6, 1)] [[], [0]] (rel [is (.bool true),
   is (.bool true)])
       ⟨is_k, is_k, trivial⟩
       ⟨fun f s W l m p q r j => opc rfl rfl (by simp [go_sem]) (known_any W),
  fun f s W l m p q r j => opv rfl rfl (by simp [go_sem, j.e 142 (m 0 rfl)]) rfl, trivial⟩ ?_
      intro f75 s75 W75 hB75 g75 hg75
      have fB75 := below_trans fB32 hB75.below
      have z75 := hB75.below.size
      have b75_0 := blk_below b32_0 hB75.below
      have b75_1 := blk_below b32_1 hB75.below
      have b75_2 := blk_below b32_2 hB75.below
      have q155' := (q112'.below hB75.below (Nat.le_refl _))
      refine hK113 _ _ ?_
      have k75_6 := kt hg75 6 (hB75.is 1)
      refine wp_ret ?_
      refine leave_one (N := 143) (v := .bool true) (.inr rfl) Try.results4 rfl k75_6 ?_
      exact ⟨rfl, fB75⟩
  ·
   have hc18' := hc18; try simp only [decide_eq_true_eq, decide_eq_false_iff_not, Bool.and_eq_true, Bool.or_eq_true, Bool.and_eq_false_iff, Bool.or_eq_false_iff, beq_iff_eq, bne_iff_ne, Bool.not_eq_true', Bool.not_eq_false', ne_eq, bne_eq_false_iff_eq, beq_eq_false_iff_ne] at hc18'
   have hnd : (xd != 0) = true := by rw [bne_iff_ne]; exact beq_eq_false_iff_ne.1 hc18
   have hQ : (E == xd) = true := by rw [beq_iff_eq, ← hE]; exact play_e2 zb hxd hnd
   have hL0 := play_bad hL hQ hnd
   refine wp_exit ?_
   refine then_exit ?_
   refine then_exit ?_
   refine inBlock_at ?_
   refine hK14 _ _ ?_
   refine wp_seq_k fun K114 hK114 => ?_
   refine wp_seq_k fun K115 hK115 => ?_
   refine region_dk 2 [(69, 0), (70, 1)] [[], [0]] (rel [is (.int .i64 xd),
   is (.bool (xd != 0))])
    ⟨is_k, is_k, trivial⟩
    ⟨fun f s W l m p q r j => opv rfl rfl (by simp [go_sem, j.e 11 k12_11]) rfl,
  fun f s W l m p q r j => opv rfl rfl (by simp [go_sem, j.e 69 (m 0 rfl)]) rfl, trivial⟩ ?_
   intro f76 s76 W76 hB76 g76 hg76
   have fB76 := below_trans fB12 hB76.below
   have z76 := hB76.below.size
   have b76_0 := blk_below b12_0 hB76.below
   have b76_1 := blk_below b12_1 hB76.below
   have b76_2 := blk_below b12_2 hB76.below
   have q156' := (q90'.below hB76.below (Nat.le_refl _))
   refine hK115 _ _ ?_
   have k76_3 := kt hg76 3 k12_3
   have k76_4 := kt hg76 4 k12_4
   have k76_5 := kt hg76 5 k12_5
   have k76_6 := kt hg76 6 k12_6
   have k76_9 := kt hg76 9 k12_9
   have k76_10 := kt hg76 10 k12_10
   have k76_11 := kt hg76 11 k12_11
   have k76_70 := kt hg76 70 (hB76.is 1)
   have hc116 : (fr 143 g76).eval (.tmp 70) = .bool true := ((fr_eval rfl).trans k76_70).trans (by rw [hnd])
   refine wp_cond_true (hc116) ?_
   refine wp_seq_k fun K117 hK117 => ?_
   refine region_dk 12 [(71, 0), (72, 1), (73, 2), (74, 3), (75, 4), (76, 5), (77, 6), (78, 7), (79, 8), (80, 9), (81, 10), (6, 11)] [[], [], [0, 1], [0, 1, 2], [0, 1, 2, 3], [0, 1, 2, 3, 4], [0, 1, 2, 3, 4, 5], [0, 1, 2, 3, 4, 5, 6], [0, 1, 2, 3, 4, 5, 6, 7], [0, 1, 2, 3, 4, 5, 6, 7, 8], [0, 1, 2, 3, 4, 5, 6, 7, 8, 9], [0, 1, 2, 3, 4, 5, 6, 7, 8, 9, 10]] (rel [is (.int .i64 E),
   is (.int .i64 xd),
   is (.bool true),
   is (.bool true),
   gd (true) true (is (.slice (a70') (L.length) (c71'))),
   gd (true) true (is (.int .i64 ((L.length : Int)))),
   gd (true) true (is (.bool true)),
   is (.bool true),
   is (.bool true),
   gd (true) true (is (.bool true)),
   is (.bool true),
   is (.bool true)])
    ⟨is_k, is_k, is_k, is_k, gd_k (is_k), gd_k (is_k), gd_k (is_k), is_k, is_k, gd_k (is_k), is_k, is_k, trivial⟩
    ⟨fun f s W l m p q r j => opv rfl rfl (by simp [go_sem, j.e 10 k76_10]) rfl,
  fun f s W l m p q r j => opv rfl rfl (by simp [go_sem, j.e 11 k76_11]) rfl,
  fun f s W l m p q r j => opv rfl rfl (by simp [go_sem, j.e 71 (m 0 rfl), j.e 72 (m 1 rfl), hQ]) rfl,
  fun f s W l m p q r j => opv rfl rfl (by simp [go_sem, j.e 73 (m 2 rfl)]) rfl,
  fun f s W l m p q r j => gdo rfl rfl (j.says (d := 74) rfl rfl (m 3 rfl)) fun hgd0 => gv (by simp [go_sem, j.e 9 k76_9]) rfl,
  fun f s W l m p q r j => gdo rfl rfl (j.says (d := 74) rfl rfl (m 3 rfl)) fun hgd0 => gv (by simp [go_sem, j.e 75 ((m 4 rfl).1 hgd0)]) rfl,
  fun f s W l m p q r j => gdo rfl rfl (j.says (d := 74) rfl rfl (m 3 rfl)) fun hgd0 => gv (by simp [go_sem, j.e 76 ((m 5 rfl).1 hgd0), hL0]) rfl,
  fun f s W l m p q r j => opk (c := true) rfl rfl (fun h => absurd h (by decide)) (fun _ => by simp [go_sem, j.e 74 (m 3 rfl), j.e 77 ((m 6 rfl).1 rfl)]),
  fun f s W l m p q r j => opv rfl rfl (by simp [go_sem, j.e 78 (m 7 rfl)]) rfl,
  fun f s W l m p q r j => gdo rfl rfl (j.says (d := 79) rfl rfl (m 8 rfl)) fun hgd0 => gc (by simp [go_sem]) (known_any W),
  fun f s W l m p q r j => opk (c := true) rfl rfl (fun h => absurd h (by decide)) (fun _ => by simp [go_sem, j.e 79 (m 8 rfl), j.e 80 ((m 9 rfl).1 rfl)]),
  fun f s W l m p q r j => opv rfl rfl (by simp [go_sem, j.e 81 (m 10 rfl)]) rfl, trivial⟩ ?_
   intro f77 s77 W77 hB77 g77 hg77
   have fB77 := below_trans fB76 hB77.below
   have z77 := hB77.below.size
   have b77_0 := blk_below b76_0 hB77.below
   have b77_1 := blk_below b76_1 hB77.below
   have b77_2 := blk_below b76_2 hB77.below
   have q157' := (q156'.below hB77.below (Nat.le_refl _))
   refine hK117 _ _ ?_
   have k77_3 := kt hg77 3 k76_3
   have k77_4 := kt hg77 4 k76_4
   have k77_5 := kt hg77 5 k76_5
   have k77_9 := kt hg77 9 k76_9
   have k77_10 := kt hg77 10 k76_10
   have k77_6 := kt hg77 6 (hB77.is 11)
   refine wp_ret ?_
   refine then_ret ?_
   refine leave_one (N := 143) (v := .bool true) (.inr rfl) Try.results4 rfl k77_6 ?_
   exact ⟨rfl, fB77⟩
 ·
  have hc13' := hc13; try simp only [decide_eq_true_eq, decide_eq_false_iff_not, Bool.and_eq_true, Bool.or_eq_true, Bool.and_eq_false_iff, Bool.or_eq_false_iff, beq_iff_eq, bne_iff_ne, Bool.not_eq_true', Bool.not_eq_false', ne_eq, bne_eq_false_iff_eq, beq_eq_false_iff_ne] at hc13'
  have hnb : (xb != 0) = true := by rw [bne_iff_ne]; exact beq_eq_false_iff_ne.1 hc13
  have hQ : (E == xb) = true := by rw [beq_iff_eq, ← hE]; exact play_e1 hxb hnb
  have hL0 := play_bad hL hQ hnb
  refine wp_skip ?_
  refine hK11 _ _ ?_
  refine wp_seq_k fun K118 hK118 => ?_
  refine wp_seq_k fun K119 hK119 => ?_
  refine region_dk 1 [(12, 0)] [[]] (rel [is (.int .i64 0)])
   ⟨is_k, trivial⟩
   ⟨fun f s W l m p q r j => opv rfl rfl (by simp [go_sem]) rfl, trivial⟩ ?_
  intro f78 s78 W78 hB78 g78 hg78
  have fB78 := below_trans fB9 hB78.below
  have z78 := hB78.below.size
  have b78_0 := blk_below b9_0 hB78.below
  have b78_1 := blk_below b9_1 hB78.below
  have b78_2 := blk_below b9_2 hB78.below
  have q158' := (q87'.below hB78.below (Nat.le_refl _))
  refine hK119 _ _ ?_
  have k78_3 := kt hg78 3 k9_3
  have k78_4 := kt hg78 4 k9_4
  have k78_5 := kt hg78 5 k9_5
  have k78_6 := kt hg78 6 k9_6
  have k78_9 := kt hg78 9 k9_9
  have k78_10 := kt hg78 10 k9_10
  have k78_11 := kt hg78 11 k9_11
  have k78_12 := kt hg78 12 (hB78.is 0)
  refine wp_block ?_
  refine wp_loop_rounds 3 ?_
  rw [rounds_succ]
  refine wp_seq_k fun K120 hK120 => ?_
  refine wp_seq_k fun K121 hK121 => ?_
  refine region_dk 6 [(56, 0), (57, 1), (58, 2), (59, 3), (60, 4), (61, 5)] [[], [0], [0, 1], [0, 1, 2], [0, 1, 2, 3], [0, 1, 2, 3, 4]] (rel [is (.int .i64 0),
   is (.bool true),
   is (.bool true),
   gd (true) true (is (.int .i64 xb)),
   gd (true) true (is (.bool (xb == 0))),
   is (.bool (xb == 0))])
   ⟨is_k, is_k, is_k, gd_k (is_k), gd_k (is_k), is_k, trivial⟩
   ⟨fun f s W l m p q r j => opv rfl rfl (by simp [go_sem, j.e 12 k78_12]) rfl,
  fun f s W l m p q r j => opv rfl rfl (by simp [go_sem, j.e 56 (m 0 rfl)]) rfl,
  fun f s W l m p q r j => opv rfl rfl (by simp [go_sem, j.e 57 (m 1 rfl)]) rfl,
  fun f s W l m p q r j => gdo rfl rfl (j.says (d := 58) rfl rfl (m 2 rfl)) fun hgd0 => gv (by simp [go_sem, j.e 11 k78_11]) rfl,
  fun f s W l m p q r j => gdo rfl rfl (j.says (d := 58) rfl rfl (m 2 rfl)) fun hgd0 => gv (by simp [go_sem, j.e 59 ((m 3 rfl).1 hgd0)]) rfl,
  fun f s W l m p q r j => opk (c := true) rfl rfl (fun h => absurd h (by decide)) (fun _ => by simp [go_sem, j.e 58 (m 2 rfl), j.e 60 ((m 4 rfl).1 rfl)]), trivial⟩ ?_
  intro f79 s79 W79 hB79 g79 hg79
  have fB79 := below_trans fB78 hB79.below
  have z79 := hB79.below.size
  have b79_0 := blk_below b78_0 hB79.below
  have b79_1 := blk_below b78_1 hB79.below
  have b79_2 := blk_below b78_2 hB79.below
  have q159' := (q158'.below hB79.below (Nat.le_refl _))
  refine hK121 _ _ ?_
  have k79_3 := kt hg79 3 k78_3
  have k79_4 := kt hg79 4 k78_4
  have k79_5 := kt hg79 5 k78_5
  have k79_6 := kt hg79 6 k78_6
  have k79_9 := kt hg79 9 k78_9
  have k79_10 := kt hg79 10 k78_10
  have k79_11 := kt hg79 11 k78_11
  have k79_12 := kt hg79 12 k78_12
  have k79_61 := kt hg79 61 (hB79.is 5)
  have hc122 : (fr 143 g79).eval (.tmp 61) = .bool false := ((fr_eval rfl).trans k79_61).trans (by rw [hc13])
  refine wp_cond_false (hc122) ?_
  refine wp_exit ?_
  refine then_exit ?_
  refine then_exit ?_
  refine inBlock_at ?_
  refine hK118 _ _ ?_
  refine wp_seq_k fun K123 hK123 => ?_
  refine wp_seq_k fun K124 hK124 => ?_
  refine region_dk 2 [(69, 0), (70, 1)] [[], [0]] (rel [is (.int .i64 xb),
   is (.bool (xb != 0))])
   ⟨is_k, is_k, trivial⟩
   ⟨fun f s W l m p q r j => opv rfl rfl (by simp [go_sem, j.e 11 k79_11]) rfl,
  fun f s W l m p q r j => opv rfl rfl (by simp [go_sem, j.e 69 (m 0 rfl)]) rfl, trivial⟩ ?_
  intro f80 s80 W80 hB80 g80 hg80
  have fB80 := below_trans fB79 hB80.below
  have z80 := hB80.below.size
  have b80_0 := blk_below b79_0 hB80.below
  have b80_1 := blk_below b79_1 hB80.below
  have b80_2 := blk_below b79_2 hB80.below
  have q160' := (q159'.below hB80.below (Nat.le_refl _))
  refine hK124 _ _ ?_
  have k80_3 := kt hg80 3 k79_3
  have k80_4 := kt hg80 4 k79_4
  have k80_5 := kt hg80 5 k79_5
  have k80_6 := kt hg80 6 k79_6
  have k80_9 := kt hg80 9 k79_9
  have k80_10 := kt hg80 10 k79_10
  have k80_11 := kt hg80 11 k79_11
  have k80_70 := kt hg80 70 (hB80.is 1)
  have hc125 : (fr 143 g80).eval (.tmp 70) = .bool true := ((fr_eval rfl).trans k80_70).trans (by rw [hnb])
  refine wp_cond_true (hc125) ?_
  refine wp_seq_k fun K126 hK126 => ?_
  refine region_dk 12 [(71, 0), (72, 1), (73, 2), (74, 3), (75, 4), (76, 5), (77, 6), (78, 7), (79, 8), (80, 9), (81, 10), (6, 11)] [[], [], [0, 1], [0, 1, 2], [0, 1, 2, 3], [0, 1, 2, 3, 4], [0, 1, 2, 3, 4, 5], [0, 1, 2, 3, 4, 5, 6], [0, 1, 2, 3, 4, 5, 6, 7], [0, 1, 2, 3, 4, 5, 6, 7, 8], [0, 1, 2, 3, 4, 5, 6, 7, 8, 9], [0, 1, 2, 3, 4, 5, 6, 7, 8, 9, 10]] (rel [is (.int .i64 E),
   is (.int .i64 xb),
   is (.bool true),
   is (.bool true),
   gd (true) true (is (.slice (a70') (L.length) (c71'))),
   gd (true) true (is (.int .i64 ((L.length : Int)))),
   gd (true) true (is (.bool true)),
   is (.bool true),
   is (.bool true),
   gd (true) true (is (.bool true)),
   is (.bool true),
   is (.bool true)])
   ⟨is_k, is_k, is_k, is_k, gd_k (is_k), gd_k (is_k), gd_k (is_k), is_k, is_k, gd_k (is_k), is_k, is_k, trivial⟩
   ⟨fun f s W l m p q r j => opv rfl rfl (by simp [go_sem, j.e 10 k80_10]) rfl,
  fun f s W l m p q r j => opv rfl rfl (by simp [go_sem, j.e 11 k80_11]) rfl,
  fun f s W l m p q r j => opv rfl rfl (by simp [go_sem, j.e 71 (m 0 rfl), j.e 72 (m 1 rfl), hQ]) rfl,
  fun f s W l m p q r j => opv rfl rfl (by simp [go_sem, j.e 73 (m 2 rfl)]) rfl,
  fun f s W l m p q r j => gdo rfl rfl (j.says (d := 74) rfl rfl (m 3 rfl)) fun hgd0 => gv (by simp [go_sem, j.e 9 k80_9]) rfl,
  fun f s W l m p q r j => gdo rfl rfl (j.says (d := 74) rfl rfl (m 3 rfl)) fun hgd0 => gv (by simp [go_sem, j.e 75 ((m 4 rfl).1 hgd0)]) rfl,
  fun f s W l m p q r j => gdo rfl rfl (j.says (d := 74) rfl rfl (m 3 rfl)) fun hgd0 => gv (by simp [go_sem, j.e 76 ((m 5 rfl).1 hgd0), hL0]) rfl,
  fun f s W l m p q r j => opk (c := true) rfl rfl (fun h => absurd h (by decide)) (fun _ => by simp [go_sem, j.e 74 (m 3 rfl), j.e 77 ((m 6 rfl).1 rfl)]),
  fun f s W l m p q r j => opv rfl rfl (by simp [go_sem, j.e 78 (m 7 rfl)]) rfl,
  fun f s W l m p q r j => gdo rfl rfl (j.says (d := 79) rfl rfl (m 8 rfl)) fun hgd0 => gc (by simp [go_sem]) (known_any W),
  fun f s W l m p q r j => opk (c := true) rfl rfl (fun h => absurd h (by decide)) (fun _ => by simp [go_sem, j.e 79 (m 8 rfl), j.e 80 ((m 9 rfl).1 rfl)]),
  fun f s W l m p q r j => opv rfl rfl (by simp [go_sem, j.e 81 (m 10 rfl)]) rfl, trivial⟩ ?_
  intro f81 s81 W81 hB81 g81 hg81
  have fB81 := below_trans fB80 hB81.below
  have z81 := hB81.below.size
  have b81_0 := blk_below b80_0 hB81.below
  have b81_1 := blk_below b80_1 hB81.below
  have b81_2 := blk_below b80_2 hB81.below
  have q161' := (q160'.below hB81.below (Nat.le_refl _))
  refine hK126 _ _ ?_
  have k81_3 := kt hg81 3 k80_3
  have k81_4 := kt hg81 4 k80_4
  have k81_5 := kt hg81 5 k80_5
  have k81_9 := kt hg81 9 k80_9
  have k81_10 := kt hg81 10 k80_10
  have k81_6 := kt hg81 6 (hB81.is 11)
  refine wp_ret ?_
  refine then_ret ?_
  refine leave_one (N := 143) (v := .bool true) (.inr rfl) Try.results4 rfl k81_6 ?_
  exact ⟨rfl, fB81⟩
theorem plays_law (a1 a2 a3 : Option Addr) (c1 c2 c3 : Nat) (b : Bl) (x1 x2 x3 : Option Addr) (y1 y2 y3 : Nat) (d : Bl) (lo1 hi1 lo2 hi2 : Int) (w : World) (h1 : Ii w a1 b.panels.length c1 b.panels) (h2 : Ii w a2 b.top.length c2 b.top) (h3 : Ii w a3 b.bottom.length c3 b.bottom) (m1 : Ii w x1 d.panels.length y1 d.panels) (m2 : Ii w x2 d.top.length y2 d.top) (m3 : Ii w x3 d.bottom.length y3 d.bottom) : Calls Try.prog 4 #[.agg #[.int .i64 b.tab, .slice (a1) (b.panels.length) (c1), .int .i64 b.height, .slice (a2) (b.top.length) (c2), .slice (a3) (b.bottom.length) (c3), .int .i64 b.slot, .bool b.isOpen], .agg #[.int .i64 d.tab, .slice (x1) (d.panels.length) (y1), .int .i64 d.height, .slice (x2) (d.top.length) (y2), .slice (x3) (d.bottom.length) (y3), .int .i64 d.slot, .bool d.isOpen], .agg #[.int .i64 lo1, .int .i64 hi1, .int .i64 lo2, .int .i64 hi2]] w (fun e w' => e = .returned (.bool true) ∧ Below w.heap.size w w') := by
  cases hlb : largeB b with
  | true => exact plays_large1 a1 a2 a3 c1 c2 c3 b x1 x2 x3 y1 y2 y3 d lo1 hi1 lo2 hi2 w h1 h2 h3 m1 m2 m3 hlb
  | false =>
    cases hld : largeB d with
    | true => exact plays_large2 a1 a2 a3 c1 c2 c3 b x1 x2 x3 y1 y2 y3 d lo1 hi1 lo2 hi2 w h1 h2 h3 m1 m2 m3 hlb hld
    | false => exact plays_main a1 a2 a3 c1 c2 c3 b x1 x2 x3 y1 y2 y3 d lo1 hi1 lo2 hi2 w h1 h2 h3 m1 m2 m3 _ _ _ _ _ _ hlb hld rfl rfl rfl rfl rfl rfl
end Go.Proofs.Ythnediamopehfaa
