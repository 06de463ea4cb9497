/- Part of the proof: what the claim leans on. -/
import Derived.Test.YthnediamopehfaaWAN
import Derived.Test.YthnediamopehfaaWAK
set_option linter.unusedSimpArgs false
set_option linter.unusedVariables false
namespace Go.Proofs.Ythnediamopehfaa
open Go.RowKit
def sameB (b d : Bl) : Bool := (((((((b.tab == d.tab) && (b.panels == d.panels)) && (b.height == d.height)) && (b.top == d.top)) && (b.bottom == d.bottom)) && (b.slot == d.slot)) && (b.isOpen == d.isOpen))
theorem sameB_iff (b d : Bl) : sameB b d = true ↔ b = d := by
  obtain ⟨t, p, h, u, v, s, o⟩ := b; obtain ⟨t', p', h', u', v', s', o'⟩ := d
  simp only [sameB, Bool.and_eq_true, beq_iff_eq, Bl.mk.injEq, and_assoc]
theorem sameB_self (b : Bl) : sameB b b = true := (sameB_iff b b).2 rfl
set_option maxRecDepth 100000 in
set_option maxHeartbeats 400000 in
theorem same_any (a1 a2 a3 : Option Addr) (c1 c2 c3 : Nat) (b : Bl) (x1 x2 x3 : Option Addr) (y1 y2 y3 : Nat) (d : Bl) (w : World) (h1 : Ii w a1 b.panels.length c1 b.panels) (h2 : Ii w a2 b.top.length c2 b.top) (h3 : Ii w a3 b.bottom.length c3 b.bottom) (m1 : Ii w x1 d.panels.length y1 d.panels) (m2 : Ii w x2 d.top.length y2 d.top) (m3 : Ii w x3 d.bottom.length y3 d.bottom) :
  Calls Try.prog 13 #[.agg #[.int .i64 b.tab, .slice (a1) (b.panels.length) (c1), .int .i64 b.height, .slice (a2) (b.top.length) (c2), .slice (a3) (b.bottom.length) (c3), .int .i64 b.slot, .bool b.isOpen], .agg #[.int .i64 d.tab, .slice (x1) (d.panels.length) (y1), .int .i64 d.height, .slice (x2) (d.top.length) (y2), .slice (x3) (d.bottom.length) (y3), .int .i64 d.slot, .bool d.isOpen]] w (fun e w' => e = .returned (.bool (sameB b d)) ∧ Below w.heap.size w w') := by
 refine calls_fr Try.func13 Try.ntmps13 rfl rfl fun g hg => ?_
 have k0 : g 0 = .agg #[.int .i64 b.tab, .slice (a1) (b.panels.length) (c1), .int .i64 b.height, .slice (a2) (b.top.length) (c2), .slice (a3) (b.bottom.length) (c3), .int .i64 b.slot, .bool b.isOpen] := hg 0
 have k1 : g 1 = .agg #[.int .i64 d.tab, .slice (x1) (d.panels.length) (y1), .int .i64 d.height, .slice (x2) (d.top.length) (y2), .slice (x3) (d.bottom.length) (y3), .int .i64 d.slot, .bool d.isOpen] := hg 1
 clear hg
 have fB0 : Below w.heap.size w w := Below.refl _ _
 refine wp_seq_k fun K1 hK1 => ?_
 refine region_dk 3 [(2, 0), (3, 1), (4, 2)] [[], [], []] (rel [bx 0 #[.int .i64 b.tab, .slice (a1) (b.panels.length) (c1), .int .i64 b.height, .slice (a2) (b.top.length) (c2), .slice (a3) (b.bottom.length) (c3), .int .i64 b.slot, .bool b.isOpen] 24,
   bx 1 #[.int .i64 d.tab, .slice (x1) (d.panels.length) (y1), .int .i64 d.height, .slice (x2) (d.top.length) (y2), .slice (x3) (d.bottom.length) (y3), .int .i64 d.slot, .bool d.isOpen] 24,
   is (.bool false)])
  ⟨bx_k, bx_k, is_k, trivial⟩
  ⟨fun f s W i j k l a ha => opb rfl rfl (by simp [go_sem, ha.e 0 k0]),
  fun f s W i j k l a ha => opb rfl rfl (by simp [go_sem, ha.e 1 k1]),
  fun f s W i j k l a ha => opv rfl rfl (by simp [go_sem]) rfl, trivial⟩ ?_
 intro f1 s1 W1 hB1 g1 hg1
 have fB1 := hB1.f fB0
 have z1 := hB1.below.size
 obtain ⟨r1_0, br1_0⟩ := hB1.is 0
 have lr1_0 := hB1.lr 0 br1_0
 obtain ⟨r1_1, br1_1⟩ := hB1.is 1
 have lr1_1 := hB1.lr 1 br1_1
 have ne1_0_1 : s1 0 ≠ s1 1 := hB1.ne 0 1 (by decide) (by decide) (by decide) (fun _ _ _ h => lt_of_blk h.2) (fun _ _ _ h => lt_of_blk h.2)
 refine hK1 _ _ ?_
 have k1_2 := kt hg1 2 r1_0
 have k1_3 := kt hg1 3 r1_1
 have k1_4 := kt hg1 4 (hB1.is 2)
 refine wp_seq_k fun K2 hK2 => ?_
 refine region_dk 48 [(5, 0), (6, 1), (7, 2), (8, 3), (9, 4), (10, 5), (11, 6), (12, 7), (13, 8), (14, 9), (15, 10), (16, 11), (17, 12), (18, 13), (19, 14), (20, 15), (21, 16), (22, 17), (23, 18), (24, 19), (25, 20), (26, 21), (27, 22), (28, 23), (29, 24), (30, 25), (31, 26), (32, 27), (33, 28), (34, 29), (35, 30), (36, 31), (37, 32), (38, 33), (39, 34), (40, 35), (41, 36), (42, 37), (43, 38), (44, 39), (45, 40), (46, 41), (47, 42), (48, 43), (49, 44), (50, 45), (51, 46), (4, 47)] [[], [0], [], [2], [0, 1, 2, 3], [0, 1, 2, 3, 4], [0, 1, 2, 3, 4, 5], [0, 1, 2, 3, 4, 5, 6], [0, 1, 2, 3, 4, 5], [0, 1, 2, 3, 4, 5, 8], [0, 1, 2, 3, 4, 5, 6, 7, 8, 9], [0, 1, 2, 3, 4, 5, 6, 7, 8, 9, 10], [0, 1, 2, 3, 4, 5, 6, 7, 8, 9, 10, 11], [0, 1, 2, 3, 4, 5, 6, 7, 8, 9, 10, 11, 12], [0, 1, 2, 3, 4, 5, 6, 7, 8, 9, 10, 11, 12, 13], [0, 1, 2, 3, 4, 5, 6, 7, 8, 9, 10, 11, 12], [0, 1, 2, 3, 4, 5, 6, 7, 8, 9, 10, 11, 12, 15], [0, 1, 2, 3, 4, 5, 6, 7, 8, 9, 10, 11, 12, 13, 14, 15, 16], [0, 1, 2, 3, 4, 5, 6, 7, 8, 9, 10, 11, 12, 13, 14, 15, 16, 17], [0, 1, 2, 3, 4, 5, 6, 7, 8, 9, 10, 11, 12, 13, 14, 15, 16, 17, 18], [0, 1, 2, 3, 4, 5, 6, 7, 8, 9, 10, 11, 12, 13, 14, 15, 16, 17, 18, 19], [0, 1, 2, 3, 4, 5, 6, 7, 8, 9, 10, 11, 12, 13, 14, 15, 16, 17, 18, 19, 20], [0, 1, 2, 3, 4, 5, 6, 7, 8, 9, 10, 11, 12, 13, 14, 15, 16, 17, 18, 19], [0, 1, 2, 3, 4, 5, 6, 7, 8, 9, 10, 11, 12, 13, 14, 15, 16, 17, 18, 19, 22], [0, 1, 2, 3, 4, 5, 6, 7, 8, 9, 10, 11, 12, 13, 14, 15, 16, 17, 18, 19, 20, 21, 22, 23], [0, 1, 2, 3, 4, 5, 6, 7, 8, 9, 10, 11, 12, 13, 14, 15, 16, 17, 18, 19, 20, 21, 22, 23, 24], [0, 1, 2, 3, 4, 5, 6, 7, 8, 9, 10, 11, 12, 13, 14, 15, 16, 17, 18, 19, 20, 21, 22, 23, 24, 25], [0, 1, 2, 3, 4, 5, 6, 7, 8, 9, 10, 11, 12, 13, 14, 15, 16, 17, 18, 19, 20, 21, 22, 23, 24, 25, 26], [0, 1, 2, 3, 4, 5, 6, 7, 8, 9, 10, 11, 12, 13, 14, 15, 16, 17, 18, 19, 20, 21, 22, 23, 24, 25, 26, 27], [0, 1, 2, 3, 4, 5, 6, 7, 8, 9, 10, 11, 12, 13, 14, 15, 16, 17, 18, 19, 20, 21, 22, 23, 24, 25, 26], [0, 1, 2, 3, 4, 5, 6, 7, 8, 9, 10, 11, 12, 13, 14, 15, 16, 17, 18, 19, 20, 21, 22, 23, 24, 25, 26, 29], [0, 1, 2, 3, 4, 5, 6, 7, 8, 9, 10, 11, 12, 13, 14, 15, 16, 17, 18, 19, 20, 21, 22, 23, 24, 25, 26, 27, 28, 29, 30], [0, 1, 2, 3, 4, 5, 6, 7, 8, 9, 10, 11, 12, 13, 14, 15, 16, 17, 18, 19, 20, 21, 22, 23, 24, 25, 26, 27, 28, 29, 30, 31], [0, 1, 2, 3, 4, 5, 6, 7, 8, 9, 10, 11, 12, 13, 14, 15, 16, 17, 18, 19, 20, 21, 22, 23, 24, 25, 26, 27, 28, 29, 30, 31, 32], [0, 1, 2, 3, 4, 5, 6, 7, 8, 9, 10, 11, 12, 13, 14, 15, 16, 17, 18, 19, 20, 21, 22, 23, 24, 25, 26, 27, 28, 29, 30, 31, 32, 33], [0, 1, 2, 3, 4, 5, 6, 7, 8, 9, 10, 11, 12, 13, 14, 15, 16, 17, 18, 19, 20, 21, 22, 23, 24, 25, 26, 27, 28, 29, 30, 31, 32, 33, 34], [0, 1, 2, 3, 4, 5, 6, 7, 8, 9, 10, 11, 12, 13, 14, 15, 16, 17, 18, 19, 20, 21, 22, 23, 24, 25, 26, 27, 28, 29, 30, 31, 32, 33], [0, 1, 2, 3, 4, 5, 6, 7, 8, 9, 10, 11, 12, 13, 14, 15, 16, 17, 18, 19, 20, 21, 22, 23, 24, 25, 26, 27, 28, 29, 30, 31, 32, 33, 36], [0, 1, 2, 3, 4, 5, 6, 7, 8, 9, 10, 11, 12, 13, 14, 15, 16, 17, 18, 19, 20, 21, 22, 23, 24, 25, 26, 27, 28, 29, 30, 31, 32, 33, 34, 35, 36, 37], [0, 1, 2, 3, 4, 5, 6, 7, 8, 9, 10, 11, 12, 13, 14, 15, 16, 17, 18, 19, 20, 21, 22, 23, 24, 25, 26, 27, 28, 29, 30, 31, 32, 33, 34, 35, 36, 37, 38], [0, 1, 2, 3, 4, 5, 6, 7, 8, 9, 10, 11, 12, 13, 14, 15, 16, 17, 18, 19, 20, 21, 22, 23, 24, 25, 26, 27, 28, 29, 30, 31, 32, 33, 34, 35, 36, 37, 38, 39], [0, 1, 2, 3, 4, 5, 6, 7, 8, 9, 10, 11, 12, 13, 14, 15, 16, 17, 18, 19, 20, 21, 22, 23, 24, 25, 26, 27, 28, 29, 30, 31, 32, 33, 34, 35, 36, 37, 38, 39, 40], [0, 1, 2, 3, 4, 5, 6, 7, 8, 9, 10, 11, 12, 13, 14, 15, 16, 17, 18, 19, 20, 21, 22, 23, 24, 25, 26, 27, 28, 29, 30, 31, 32, 33, 34, 35, 36, 37, 38, 39, 40, 41], [0, 1, 2, 3, 4, 5, 6, 7, 8, 9, 10, 11, 12, 13, 14, 15, 16, 17, 18, 19, 20, 21, 22, 23, 24, 25, 26, 27, 28, 29, 30, 31, 32, 33, 34, 35, 36, 37, 38, 39, 40], [0, 1, 2, 3, 4, 5, 6, 7, 8, 9, 10, 11, 12, 13, 14, 15, 16, 17, 18, 19, 20, 21, 22, 23, 24, 25, 26, 27, 28, 29, 30, 31, 32, 33, 34, 35, 36, 37, 38, 39, 40, 43], [0, 1, 2, 3, 4, 5, 6, 7, 8, 9, 10, 11, 12, 13, 14, 15, 16, 17, 18, 19, 20, 21, 22, 23, 24, 25, 26, 27, 28, 29, 30, 31, 32, 33, 34, 35, 36, 37, 38, 39, 40, 41, 42, 43, 44], [0, 1, 2, 3, 4, 5, 6, 7, 8, 9, 10, 11, 12, 13, 14, 15, 16, 17, 18, 19, 20, 21, 22, 23, 24, 25, 26, 27, 28, 29, 30, 31, 32, 33, 34, 35, 36, 37, 38, 39, 40, 41, 42, 43, 44, 45], [0, 1, 2, 3, 4, 5, 6, 7, 8, 9, 10, 11, 12, 13, 14, 15, 16, 17, 18, 19, 20, 21, 22, 23, 24, 25, 26, 27, 28, 29, 30, 31, 32, 33, 34, 35, 36, 37, 38, 39, 40, 41, 42, 43, 44, 45, 46]] (rel [is (.pointer (some ⟨(s1 0), 0, none⟩)),
   is (.int .i64 b.tab),
   is (.pointer (some ⟨(s1 1), 0, none⟩)),
   is (.int .i64 d.tab),
   is (.bool (b.tab == d.tab)),
   is (.bool (b.tab == d.tab)),
   gd (b.tab == d.tab) true (is (.pointer (some ⟨(s1 0), 1, none⟩))),
   gd (b.tab == d.tab) true (is (.slice (a1) (b.panels.length) (c1))),
   gd (b.tab == d.tab) true (is (.pointer (some ⟨(s1 1), 1, none⟩))),
   gd (b.tab == d.tab) true (is (.slice (x1) (d.panels.length) (y1))),
   gd (b.tab == d.tab) true (is (.bool (b.panels == d.panels))),
   is (.bool ((b.tab == d.tab) && (b.panels == d.panels))),
   is (.bool ((b.tab == d.tab) && (b.panels == d.panels))),
   gd ((b.tab == d.tab) && (b.panels == d.panels)) true (is (.pointer (some ⟨(s1 0), 2, none⟩))),
   gd ((b.tab == d.tab) && (b.panels == d.panels)) true (is (.int .i64 b.height)),
   gd ((b.tab == d.tab) && (b.panels == d.panels)) true (is (.pointer (some ⟨(s1 1), 2, none⟩))),
   gd ((b.tab == d.tab) && (b.panels == d.panels)) true (is (.int .i64 d.height)),
   gd ((b.tab == d.tab) && (b.panels == d.panels)) true (is (.bool (b.height == d.height))),
   is (.bool (((b.tab == d.tab) && (b.panels == d.panels)) && (b.height == d.height))),
   is (.bool (((b.tab == d.tab) && (b.panels == d.panels)) && (b.height == d.height))),
   gd (((b.tab == d.tab) && (b.panels == d.panels)) && (b.height == d.height)) true (is (.pointer (some ⟨(s1 0), 3, none⟩))),
   gd (((b.tab == d.tab) && (b.panels == d.panels)) && (b.height == d.height)) true (is (.slice (a2) (b.top.length) (c2))),
   gd (((b.tab == d.tab) && (b.panels == d.panels)) && (b.height == d.height)) true (is (.pointer (some ⟨(s1 1), 3, none⟩))),
   gd (((b.tab == d.tab) && (b.panels == d.panels)) && (b.height == d.height)) true (is (.slice (x2) (d.top.length) (y2))),
   gd (((b.tab == d.tab) && (b.panels == d.panels)) && (b.height == d.height)) true (is (.bool (b.top == d.top))),
   is (.bool ((((b.tab == d.tab) && (b.panels == d.panels)) && (b.height == d.height)) && (b.top == d.top))),
   is (.bool ((((b.tab == d.tab) && (b.panels == d.panels)) && (b.height == d.height)) && (b.top == d.top))),
   gd ((((b.tab == d.tab) && (b.panels == d.panels)) && (b.height == d.height)) && (b.top == d.top)) true (is (.pointer (some ⟨(s1 0), 4, none⟩))),
   gd ((((b.tab == d.tab) && (b.panels == d.panels)) && (b.height == d.height)) && (b.top == d.top)) true (is (.slice (a3) (b.bottom.length) (c3))),
   gd ((((b.tab == d.tab) && (b.panels == d.panels)) && (b.height == d.height)) && (b.top == d.top)) true (is (.pointer (some ⟨(s1 1), 4, none⟩))),
   gd ((((b.tab == d.tab) && (b.panels == d.panels)) && (b.height == d.height)) && (b.top == d.top)) true (is (.slice (x3) (d.bottom.length) (y3))),
   gd ((((b.tab == d.tab) && (b.panels == d.panels)) && (b.height == d.height)) && (b.top == d.top)) true (is (.bool (b.bottom == d.bottom))),
   is (.bool (((((b.tab == d.tab) && (b.panels == d.panels)) && (b.height == d.height)) && (b.top == d.top)) && (b.bottom == d.bottom))),
   is (.bool (((((b.tab == d.tab) && (b.panels == d.panels)) && (b.height == d.height)) && (b.top == d.top)) && (b.bottom == d.bottom))),
   gd (((((b.tab == d.tab) && (b.panels == d.panels)) && (b.height == d.height)) && (b.top == d.top)) && (b.bottom == d.bottom)) true (is (.pointer (some ⟨(s1 0), 5, none⟩))),
   gd (((((b.tab == d.tab) && (b.panels == d.panels)) && (b.height == d.height)) && (b.top == d.top)) && (b.bottom == d.bottom)) true (is (.int .i64 b.slot)),
   gd (((((b.tab == d.tab) && (b.panels == d.panels)) && (b.height == d.height)) && (b.top == d.top)) && (b.bottom == d.bottom)) true (is (.pointer (some ⟨(s1 1), 5, none⟩))),
   gd (((((b.tab == d.tab) && (b.panels == d.panels)) && (b.height == d.height)) && (b.top == d.top)) && (b.bottom == d.bottom)) true (is (.int .i64 d.slot)),
   gd (((((b.tab == d.tab) && (b.panels == d.panels)) && (b.height == d.height)) && (b.top == d.top)) && (b.bottom == d.bottom)) true (is (.bool (b.slot == d.slot))),
   is (.bool ((((((b.tab == d.tab) && (b.panels == d.panels)) && (b.height == d.height)) && (b.top == d.top)) && (b.bottom == d.bottom)) && (b.slot == d.slot))),
   is (.bool ((((((b.tab == d.tab) && (b.panels == d.panels)) && (b.height == d.height)) && (b.top == d.top)) && (b.bottom == d.bottom)) && (b.slot == d.slot))),
   gd ((((((b.tab == d.tab) && (b.panels == d.panels)) && (b.height == d.height)) && (b.top == d.top)) && (b.bottom == d.bottom)) && (b.slot == d.slot)) true (is (.pointer (some ⟨(s1 0), 6, none⟩))),
   gd ((((((b.tab == d.tab) && (b.panels == d.panels)) && (b.height == d.height)) && (b.top == d.top)) && (b.bottom == d.bottom)) && (b.slot == d.slot)) true (is (.bool b.isOpen)),
   gd ((((((b.tab == d.tab) && (b.panels == d.panels)) && (b.height == d.height)) && (b.top == d.top)) && (b.bottom == d.bottom)) && (b.slot == d.slot)) true (is (.pointer (some ⟨(s1 1), 6, none⟩))),
   gd ((((((b.tab == d.tab) && (b.panels == d.panels)) && (b.height == d.height)) && (b.top == d.top)) && (b.bottom == d.bottom)) && (b.slot == d.slot)) true (is (.bool d.isOpen)),
   gd ((((((b.tab == d.tab) && (b.panels == d.panels)) && (b.height == d.height)) && (b.top == d.top)) && (b.bottom == d.bottom)) && (b.slot == d.slot)) true (is (.bool ((b.isOpen) == (d.isOpen)))),
   is (.bool (((((((b.tab == d.tab) && (b.panels == d.panels)) && (b.height == d.height)) && (b.top == d.top)) && (b.bottom == d.bottom)) && (b.slot == d.slot)) && ((b.isOpen) == (d.isOpen)))),
   is (.bool (((((((b.tab == d.tab) && (b.panels == d.panels)) && (b.height == d.height)) && (b.top == d.top)) && (b.bottom == d.bottom)) && (b.slot == d.slot)) && ((b.isOpen) == (d.isOpen))))])
  ⟨is_k, is_k, is_k, is_k, is_k, is_k, gd_k (is_k), gd_k (is_k), gd_k (is_k), gd_k (is_k), gd_k (is_k), is_k, is_k, gd_k (is_k), gd_k (is_k), gd_k (is_k), gd_k (is_k), gd_k (is_k), is_k, is_k, gd_k (is_k), gd_k (is_k), gd_k (is_k), gd_k (is_k), gd_k (is_k), is_k, is_k, gd_k (is_k), gd_k (is_k), gd_k (is_k), gd_k (is_k), gd_k (is_k), is_k, is_k, gd_k (is_k), gd_k (is_k), gd_k (is_k), gd_k (is_k), gd_k (is_k), is_k, is_k, gd_k (is_k), gd_k (is_k), gd_k (is_k), gd_k (is_k), gd_k (is_k), is_k, is_k, trivial⟩
  ⟨fun f s W i j k l a ha => opv rfl rfl (by simp [go_sem, ha.e 2 k1_2]) rfl,
  fun f s W i j k l a ha => opv rfl rfl (by simp [go_sem, ha.e 5 (j 0 rfl), cb br1_0 i 0]) rfl,
  fun f s W i j k l a ha => opv rfl rfl (by simp [go_sem, ha.e 3 k1_3]) rfl,
  fun f s W i j k l a ha => opv rfl rfl (by simp [go_sem, ha.e 7 (j 2 rfl), cb br1_1 i 0]) rfl,
  fun f s W i j k l a ha => opv rfl rfl (by simp [go_sem, ha.e 6 (j 1 rfl), ha.e 8 (j 3 rfl)]) rfl,
  fun f s W i j k l a ha => opv rfl rfl (by simp [go_sem, ha.e 9 (j 4 rfl)]) rfl,
  fun f s W i j k l a ha => gdo rfl rfl (ha.says (d := 10) rfl rfl (j 5 rfl)) fun hgd0 => gv (by simp [go_sem, ha.e 2 k1_2]) rfl,
  fun f s W i j k l a ha => gdo rfl rfl (ha.says (d := 10) rfl rfl (j 5 rfl)) fun hgd0 => gv (by simp [go_sem, ha.e 11 ((j 6 rfl).1 hgd0), cb br1_0 i 1]) rfl,
  fun f s W i j k l a ha => gdo rfl rfl (ha.says (d := 10) rfl rfl (j 5 rfl)) fun hgd0 => gv (by simp [go_sem, ha.e 3 k1_3]) rfl,
  fun f s W i j k l a ha => gdo rfl rfl (ha.says (d := 10) rfl rfl (j 5 rfl)) fun hgd0 => gv (by simp [go_sem, ha.e 13 ((j 8 rfl).1 hgd0), cb br1_1 i 1]) rfl,
  fun f s W i j k l a ha => gdo rfl rfl (ha.says (d := 10) rfl rfl (j 5 rfl)) fun hgd0 => by have m := below_trans fB1 i; exact gc (args := #[.slice (a1) (b.panels.length) (c1), .slice (x1) (d.panels.length) (y1)]) (by simp [go_sem, ha.e 12 ((j 7 rfl).1 hgd0), ha.e 14 ((j 9 rfl).1 hgd0)]) (intsEq_any _ _ b.panels _ _ d.panels W (h1.below m (Nat.le_refl _)) (m1.below m (Nat.le_refl _))),
  fun f s W i j k l a ha => opk (c := b.tab == d.tab) rfl rfl (fun hpk => by first | (simp [go_sem, hpk, ha.e 10 (j 5 rfl)]; done) | (have hpk' := hpk; simp at hpk'; simp [go_sem, hpk', hpk, ha.e 10 (j 5 rfl)])) (fun hpk => by first | (simp [go_sem, hpk, ha.e 10 (j 5 rfl), ha.e 15 ((j 10 rfl).1 hpk)]; done) | (have hpk' := hpk; simp at hpk'; simp [go_sem, hpk', hpk, ha.e 10 (j 5 rfl), ha.e 15 ((j 10 rfl).1 hpk)])),
  fun f s W i j k l a ha => opv rfl rfl (by simp [go_sem, ha.e 16 (j 11 rfl)]) rfl,
  fun f s W i j k l a ha => gdo rfl rfl (ha.says (d := 17) rfl rfl (j 12 rfl)) fun hgd0 => gv (by simp [go_sem, ha.e 2 k1_2]) rfl,
  fun f s W i j k l a ha => gdo rfl rfl (ha.says (d := 17) rfl rfl (j 12 rfl)) fun hgd0 => gv (by simp [go_sem, ha.e 18 ((j 13 rfl).1 hgd0), cb br1_0 i 2]) rfl,
  fun f s W i j k l a ha => gdo rfl rfl (ha.says (d := 17) rfl rfl (j 12 rfl)) fun hgd0 => gv (by simp [go_sem, ha.e 3 k1_3]) rfl,
  fun f s W i j k l a ha => gdo rfl rfl (ha.says (d := 17) rfl rfl (j 12 rfl)) fun hgd0 => gv (by simp [go_sem, ha.e 20 ((j 15 rfl).1 hgd0), cb br1_1 i 2]) rfl,
  fun f s W i j k l a ha => gdo rfl rfl (ha.says (d := 17) rfl rfl (j 12 rfl)) fun hgd0 => gv (by simp [go_sem, ha.e 19 ((j 14 rfl).1 hgd0), ha.e 21 ((j 16 rfl).1 hgd0)]) rfl,
  fun f s W i j k l a ha => opk (c := (b.tab == d.tab) && (b.panels == d.panels)) rfl rfl (fun hpk => by first | (simp [go_sem, hpk, ha.e 17 (j 12 rfl)]; done) | (have hpk' := hpk; simp at hpk'; simp [go_sem, hpk', hpk, ha.e 17 (j 12 rfl)])) (fun hpk => by first | (simp [go_sem, hpk, ha.e 17 (j 12 rfl), ha.e 22 ((j 17 rfl).1 hpk)]; done) | (have hpk' := hpk; simp at hpk'; simp [go_sem, hpk', hpk, ha.e 17 (j 12 rfl), ha.e 22 ((j 17 rfl).1 hpk)])),
  fun f s W i j k l a ha => opv rfl rfl (by simp [go_sem, ha.e 23 (j 18 rfl)]) rfl,
  fun f s W i j k l a ha => gdo rfl rfl (ha.says (d := 24) rfl rfl (j 19 rfl)) fun hgd0 => gv (by simp [go_sem, ha.e 2 k1_2]) rfl,
  fun f s W i j k l a ha => gdo rfl rfl (ha.says (d := 24) rfl rfl (j 19 rfl)) fun hgd0 => gv (by simp [go_sem, ha.e 25 ((j 20 rfl).1 hgd0), cb br1_0 i 3]) rfl,
  fun f s W i j k l a ha => gdo rfl rfl (ha.says (d := 24) rfl rfl (j 19 rfl)) fun hgd0 => gv (by simp [go_sem, ha.e 3 k1_3]) rfl,
  fun f s W i j k l a ha => gdo rfl rfl (ha.says (d := 24) rfl rfl (j 19 rfl)) fun hgd0 => gv (by simp [go_sem, ha.e 27 ((j 22 rfl).1 hgd0), cb br1_1 i 3]) rfl,
  fun f s W i j k l a ha => gdo rfl rfl (ha.says (d := 24) rfl rfl (j 19 rfl)) fun hgd0 => by have m := below_trans fB1 i; exact gc (args := #[.slice (a2) (b.top.length) (c2), .slice (x2) (d.top.length) (y2)]) (by simp [go_sem, ha.e 26 ((j 21 rfl).1 hgd0), ha.e 28 ((j 23 rfl).1 hgd0)]) (intsEq_any _ _ b.top _ _ d.top W (h2.below m (Nat.le_refl _)) (m2.below m (Nat.le_refl _))),
  fun f s W i j k l a ha => opk (c := ((b.tab == d.tab) && (b.panels == d.panels)) && (b.height == d.height)) rfl rfl (fun hpk => by first | (simp [go_sem, hpk, ha.e 24 (j 19 rfl)]; done) | (have hpk' := hpk; simp at hpk'; simp [go_sem, hpk', hpk, ha.e 24 (j 19 rfl)])) (fun hpk => by first | (simp [go_sem, hpk, ha.e 24 (j 19 rfl), ha.e 29 ((j 24 rfl).1 hpk)]; done) | (have hpk' := hpk; simp at hpk'; simp [go_sem, hpk', hpk, ha.e 24 (j 19 rfl), ha.e 29 ((j 24 rfl).1 hpk)])),
  fun f s W i j k l a ha => opv rfl rfl (by simp [go_sem, ha.e 30 (j 25 rfl)]) rfl,
  fun f s W i j k l a ha => gdo rfl rfl (ha.says (d := 31) rfl rfl (j 26 rfl)) fun hgd0 => gv (by simp [go_sem, ha.e 2 k1_2]) rfl,
  fun f s W i j k l a ha => gdo rfl rfl (ha.says (d := 31) rfl rfl (j 26 rfl)) fun hgd0 => gv (by simp [go_sem, ha.e 32 ((j 27 rfl).1 hgd0), cb br1_0 i 4]) rfl,
  fun f s W i j k l a ha => gdo rfl rfl (ha.says (d := 31) rfl rfl (j 26 rfl)) fun hgd0 => gv (by simp [go_sem, ha.e 3 k1_3]) rfl,
  fun f s W i j k l a ha => gdo rfl rfl (ha.says (d := 31) rfl rfl (j 26 rfl)) fun hgd0 => gv (by simp [go_sem, ha.e 34 ((j 29 rfl).1 hgd0), cb br1_1 i 4]) rfl,
  fun f s W i j k l a ha => gdo rfl rfl (ha.says (d := 31) rfl rfl (j 26 rfl)) fun hgd0 => by have m := below_trans fB1 i; exact gc (args := #[.slice (a3) (b.bottom.length) (c3), .slice (x3) (d.bottom.length) (y3)]) (by simp [go_sem, ha.e 33 ((j 28 rfl).1 hgd0), ha.e 35 ((j 30 rfl).1 hgd0)]) (intsEq_any _ _ b.bottom _ _ d.bottom W (h3.below m (Nat.le_refl _)) (m3.below m (Nat.le_refl _))),
  fun f s W i j k l a ha => opk (c := (((b.tab == d.tab) && (b.panels == d.panels)) && (b.height == d.height)) && (b.top == d.top)) rfl rfl (fun hpk => by first | (simp [go_sem, hpk, ha.e 31 (j 26 rfl)]; done) | (have hpk' := hpk; simp at hpk'; simp [go_sem, hpk', hpk, ha.e 31 (j 26 rfl)])) (fun hpk => by first | (simp [go_sem, hpk, ha.e 31 (j 26 rfl), ha.e 36 ((j 31 rfl).1 hpk)]; done) | (have hpk' := hpk; simp at hpk'; simp [go_sem, hpk', hpk, ha.e 31 (j 26 rfl), ha.e 36 ((j 31 rfl).1 hpk)])),
  fun f s W i j k l a ha => opv rfl rfl (by simp [go_sem, ha.e 37 (j 32 rfl)]) rfl,
  fun f s W i j k l a ha => gdo rfl rfl (ha.says (d := 38) rfl rfl (j 33 rfl)) fun hgd0 => gv (by simp [go_sem, ha.e 2 k1_2]) rfl,
  fun f s W i j k l a ha => gdo rfl rfl (ha.says (d := 38) rfl rfl (j 33 rfl)) fun hgd0 => gv (by simp [go_sem, ha.e 39 ((j 34 rfl).1 hgd0), cb br1_0 i 5]) rfl,
  fun f s W i j k l a ha => gdo rfl rfl (ha.says (d := 38) rfl rfl (j 33 rfl)) fun hgd0 => gv (by simp [go_sem, ha.e 3 k1_3]) rfl,
  fun f s W i j k l a ha => gdo rfl rfl (ha.says (d := 38) rfl rfl (j 33 rfl)) fun hgd0 => gv (by simp [go_sem, ha.e 41 ((j 36 rfl).1 hgd0), cb br1_1 i 5]) rfl,
  fun f s W i j k l a ha => gdo rfl rfl (ha.says (d := 38) rfl rfl (j 33 rfl)) fun hgd0 => gv (by simp [go_sem, ha.e 40 ((j 35 rfl).1 hgd0), ha.e 42 ((j 37 rfl).1 hgd0)]) rfl,
  fun f s W i j k l a ha => opk (c := ((((b.tab == d.tab) && (b.panels == d.panels)) && (b.height == d.height)) && (b.top == d.top)) && (b.bottom == d.bottom)) rfl rfl (fun hpk => by first | (simp [go_sem, hpk, ha.e 38 (j 33 rfl)]; done) | (have hpk' := hpk; simp at hpk'; simp [go_sem, hpk', hpk, ha.e 38 (j 33 rfl)])) (fun hpk => by first | (simp [go_sem, hpk, ha.e 38 (j 33 rfl), ha.e 43 ((j 38 rfl).1 hpk)]; done) | (have hpk' := hpk; simp at hpk'; simp [go_sem, hpk', hpk, ha.e 38 (j 33 rfl), ha.e 43 ((j 38 rfl).1 hpk)])),
  fun f s W i j k l a ha => opv rfl rfl (by simp [go_sem, ha.e 44 (j 39 rfl)]) rfl,
  fun f s W i j k l a ha => gdo rfl rfl (ha.says (d := 45) rfl rfl (j 40 rfl)) fun hgd0 => gv (by simp [go_sem, ha.e 2 k1_2]) rfl,
  fun f s W i j k l a ha => gdo rfl rfl (ha.says (d := 45) rfl rfl (j 40 rfl)) fun hgd0 => gv (by simp [go_sem, ha.e 46 ((j 41 rfl).1 hgd0), cb br1_0 i 6]) rfl,
  fun f s W i j k l a ha => gdo rfl rfl (ha.says (d := 45) rfl rfl (j 40 rfl)) fun hgd0 => gv (by simp [go_sem, ha.e 3 k1_3]) rfl,
  fun f s W i j k l a ha => gdo rfl rfl (ha.says (d := 45) rfl rfl (j 40 rfl)) fun hgd0 => gv (by simp [go_sem, ha.e 48 ((j 43 rfl).1 hgd0), cb br1_1 i 6]) rfl,
  fun f s W i j k l a ha => gdo rfl rfl (ha.says (d := 45) rfl rfl (j 40 rfl)) fun hgd0 => gv (by simp [go_sem, ha.e 47 ((j 42 rfl).1 hgd0), ha.e 49 ((j 44 rfl).1 hgd0)]) rfl,
  fun f s W i j k l a ha => opk (c := (((((b.tab == d.tab) && (b.panels == d.panels)) && (b.height == d.height)) && (b.top == d.top)) && (b.bottom == d.bottom)) && (b.slot == d.slot)) rfl rfl (fun hpk => by first | (simp [go_sem, hpk, ha.e 45 (j 40 rfl)]; done) | (have hpk' := hpk; simp at hpk'; simp [go_sem, hpk', hpk, ha.e 45 (j 40 rfl)])) (fun hpk => by first | (simp [go_sem, hpk, ha.e 45 (j 40 rfl), ha.e 50 ((j 45 rfl).1 hpk)]; done) | (have hpk' := hpk; simp at hpk'; simp [go_sem, hpk', hpk, ha.e 45 (j 40 rfl), ha.e 50 ((j 45 rfl).1 hpk)])),
  fun f s W i j k l a ha => opv rfl rfl (by simp [go_sem, ha.e 51 (j 46 rfl)]) rfl, trivial⟩ ?_
 intro f2 s2 W2 hB2 g2 hg2
 have fB2 := hB2.f fB1
 have z2 := hB2.below.size
 have b2_0 := hB2.b br1_0
 have b2_1 := hB2.b br1_1
 refine hK2 _ _ ?_
 have k2_4 := kt hg2 4 (hB2.is 47)
 refine wp_ret ?_
 refine leave_one (N := 52) (v := .bool (((((((b.tab == d.tab) && (b.panels == d.panels)) && (b.height == d.height)) && (b.top == d.top)) && (b.bottom == d.bottom)) && (b.slot == d.slot)) && ((b.isOpen) == (d.isOpen)))) (.inr rfl) Try.results13 rfl k2_4 ?_
 exact ⟨rfl, fB2⟩
theorem same_blk {w : World} {v u : Value} {b d : Bl} (hb : Blk w v b) (hd : Blk w u d) : Calls Try.prog 13 #[v, u] w fun e w' => e = .returned (.bool (sameB b d)) ∧ Below w.heap.size w w' := by
  obtain ⟨a1, n1, c1, a2, n2, c2, a3, n3, c3, rfl, h1, h2, h3⟩ := hb
  obtain ⟨e1, m1, f1, e2, m2, f2, e3, m3, f3, rfl, k1, k2, k3⟩ := hd
  obtain rfl := h1.1; obtain rfl := h2.1; obtain rfl := h3.1; obtain rfl := k1.1; obtain rfl := k2.1; obtain rfl := k3.1
  exact same_any a1 a2 a3 c1 c2 c3 b e1 e2 e3 f1 f2 f3 d w h1 h2 h3 k1 k2 k3
set_option maxRecDepth 100000 in
set_option maxHeartbeats 1000000 in
theorem copy_any (a1 a2 a3 : Option Addr) (c1 c2 c3 : Nat) (b : Bl) (w : World) (h1 : Ii w a1 b.panels.length c1 b.panels) (h2 : Ii w a2 b.top.length c2 b.top) (h3 : Ii w a3 b.bottom.length c3 b.bottom) (n1 : b.panels.length ≤ 1000) (n2 : b.top.length ≤ 1000) (n3 : b.bottom.length ≤ 1000) :
  Calls Try.prog 35 #[.agg #[.int .i64 b.tab, .slice (a1) (b.panels.length) (c1), .int .i64 b.height, .slice (a2) (b.top.length) (c2), .slice (a3) (b.bottom.length) (c3), .int .i64 b.slot, .bool b.isOpen]] w (NwBlkP b w) := by
 refine calls_fr Try.func35 Try.ntmps35 rfl rfl fun g hg => ?_
 have k0 : g 0 = .agg #[.int .i64 b.tab, .slice (a1) (b.panels.length) (c1), .int .i64 b.height, .slice (a2) (b.top.length) (c2), .slice (a3) (b.bottom.length) (c3), .int .i64 b.slot, .bool b.isOpen] := hg 0
 clear hg
 have fB0 : Below w.heap.size w w := Below.refl _ _
 refine wp_seq_k fun K1 hK1 => ?_
 refine region_dk 2 [(1, 0), (2, 1)] [[], []] (rel [bx 0 #[.int .i64 b.tab, .slice (a1) (b.panels.length) (c1), .int .i64 b.height, .slice (a2) (b.top.length) (c2), .slice (a3) (b.bottom.length) (c3), .int .i64 b.slot, .bool b.isOpen] 24,
   bx 1 #[.int .i64 0, .slice (none) (0) (0), .int .i64 0, .slice (none) (0) (0), .slice (none) (0) (0), .int .i64 0, .bool false] 24])
  ⟨bx_k, bx_k, trivial⟩
  ⟨fun f s W c d i j a ha => opb rfl rfl (by simp [go_sem, ha.e 0 k0]),
  fun f s W c d i j a ha => opb rfl rfl (by simp [go_sem]), trivial⟩ ?_
 intro f1 s1 W1 hB1 g1 hg1
 have fB1 := hB1.f fB0
 have z1 := hB1.below.size
 obtain ⟨r1_0, br1_0⟩ := hB1.is 0
 have lr1_0 := hB1.lr 0 br1_0
 obtain ⟨r1_1, br1_1⟩ := hB1.is 1
 have lr1_1 := hB1.lr 1 br1_1
 have ne1_0_1 : s1 0 ≠ s1 1 := hB1.ne 0 1 (by decide) (by decide) (by decide) (fun _ _ _ h => lt_of_blk h.2) (fun _ _ _ h => lt_of_blk h.2)
 refine hK1 _ _ ?_
 have k1_1 := kt hg1 1 r1_0
 have k1_2 := kt hg1 2 r1_1
 refine wp_seq_k fun K2 hK2 => ?_
 refine region_dk 13 [(3, 0), (4, 1), (5, 2), (6, 3), (7, 4), (8, 5), (9, 6), (10, 7), (11, 8), (12, 9), (13, 10), (14, 11), (15, 12), (16, 14), (17, 16)] [[], [], [1], [0, 1, 2], [], [], [5], [0, 1, 2, 3, 4, 5, 6], [], [], [9], [0, 1, 2, 3, 4, 5, 6, 7, 8, 9, 10], [0, 1, 2, 3, 5, 6, 9, 10], [0, 1, 2, 3, 4, 5, 6, 7, 8, 9, 10, 11, 12], [0, 1, 2, 3, 4, 5, 6, 7, 8, 9, 10, 11, 12, 13], [0, 1, 2, 3, 4, 5, 6, 7, 8, 9, 10, 11, 12, 13, 14], [0, 1, 2, 3, 4, 5, 6, 7, 8, 9, 10, 11, 12, 13, 14, 15], [0, 1, 2, 3, 4, 5, 6, 7, 8, 9, 10, 11, 12, 13, 14, 15, 16]] (rel [row 0 0 #[] 3,
   is (.pointer (some ⟨(s1 0), 1, none⟩)),
   is (.slice (a1) (b.panels.length) (c1)),
   ab fun v W => NwIi W1.heap.size (b.panels) v W,
   row 4 0 #[] 3,
   is (.pointer (some ⟨(s1 0), 3, none⟩)),
   is (.slice (a2) (b.top.length) (c2)),
   ab fun v W => NwIi W1.heap.size (b.top) v W,
   row 8 0 #[] 3,
   is (.pointer (some ⟨(s1 0), 4, none⟩)),
   is (.slice (a3) (b.bottom.length) (c3)),
   ab fun v W => NwIi W1.heap.size (b.bottom) v W,
   is (.pointer (some ⟨(s1 0), 1, none⟩))])
  ⟨row_k, is_k, is_k, ab_k fun v W W' hb h => h.below hb, row_k, is_k, is_k, ab_k fun v W W' hb h => h.below hb, row_k, is_k, is_k, ab_k fun v W W' hb h => h.below hb, is_k, trivial⟩
  ⟨fun f s W c d i j a ha => opr rfl rfl (by simp [go_sem]),
  fun f s W c d i j a ha => opv rfl rfl (by simp [go_sem, ha.e 1 k1_1]) rfl,
  fun f s W c d i j a ha => opv rfl rfl (by simp [go_sem, ha.e 4 (d 1 rfl), cb br1_0 c 1]) rfl,
  fun f s W c d i j a ha => by have k := below_trans fB1 c; obtain ⟨v_, W_, r_, b_, i_⟩ := clone_run 22 W (s 0) (a1) (c1) (b.panels) ((h1.below k (Nat.le_refl _))) (n1) (d 0 rfl).2 W1.heap.size (i 0 rfl) c.size; exact opDo_value rfl rfl (run_appendOp (ha.v 3 (d 0 rfl).1) (ha.v 5 (d 2 rfl)) r_) b_ i_,
  fun f s W c d i j a ha => opr rfl rfl (by simp [go_sem]),
  fun f s W c d i j a ha => opv rfl rfl (by simp [go_sem, ha.e 1 k1_1]) rfl,
  fun f s W c d i j a ha => opv rfl rfl (by simp [go_sem, ha.e 8 (d 5 rfl), cb br1_0 c 3]) rfl,
  fun f s W c d i j a ha => by have k := below_trans fB1 c; obtain ⟨v_, W_, r_, b_, i_⟩ := clone_run 22 W (s 4) (a2) (c2) (b.top) ((h2.below k (Nat.le_refl _))) (n2) (d 4 rfl).2 W1.heap.size (i 4 rfl) c.size; exact opDo_value rfl rfl (run_appendOp (ha.v 7 (d 4 rfl).1) (ha.v 9 (d 6 rfl)) r_) b_ i_,
  fun f s W c d i j a ha => opr rfl rfl (by simp [go_sem]),
  fun f s W c d i j a ha => opv rfl rfl (by simp [go_sem, ha.e 1 k1_1]) rfl,
  fun f s W c d i j a ha => opv rfl rfl (by simp [go_sem, ha.e 12 (d 9 rfl), cb br1_0 c 4]) rfl,
  fun f s W c d i j a ha => by have k := below_trans fB1 c; obtain ⟨v_, W_, r_, b_, i_⟩ := clone_run 22 W (s 8) (a3) (c3) (b.bottom) ((h3.below k (Nat.le_refl _))) (n3) (d 8 rfl).2 W1.heap.size (i 8 rfl) c.size; exact opDo_value rfl rfl (run_appendOp (ha.v 11 (d 8 rfl).1) (ha.v 13 (d 10 rfl)) r_) b_ i_,
  fun f s W c d i j a ha => opv rfl rfl (by simp [go_sem, ha.e 1 k1_1]) rfl, trivial⟩ ?_
 intro f2 s2 W2 hB2 g2 hg2
 have fB2 := hB2.f fB1
 have z2 := hB2.below.size
 have b2_0 := hB2.b br1_0
 have b2_1 := hB2.b br1_1
 obtain ⟨r2_0, br2_0⟩ := hB2.is 0
 have lr2_0 := hB2.lr 0 br2_0
 obtain ⟨g1', c2', r2_3, q3', q5', q4'⟩ := hB2.is 3
 obtain ⟨r2_4, br2_4⟩ := hB2.is 4
 have lr2_4 := hB2.lr 4 br2_4
 obtain ⟨g6', c7', r2_7, q8', q10', q9'⟩ := hB2.is 7
 obtain ⟨r2_8, br2_8⟩ := hB2.is 8
 have lr2_8 := hB2.lr 8 br2_8
 obtain ⟨g11', c12', r2_11, q13', q15', q14'⟩ := hB2.is 11
 have ne2_0_4 : s2 0 ≠ s2 4 := hB2.ne 0 4 (by decide) (by decide) (by decide) (fun _ _ _ h => lt_of_blk h.2) (fun _ _ _ h => lt_of_blk h.2)
 have ne2_0_8 : s2 0 ≠ s2 8 := hB2.ne 0 8 (by decide) (by decide) (by decide) (fun _ _ _ h => lt_of_blk h.2) (fun _ _ _ h => lt_of_blk h.2)
 have ne2_4_8 : s2 4 ≠ s2 8 := hB2.ne 4 8 (by decide) (by decide) (by decide) (fun _ _ _ h => lt_of_blk h.2) (fun _ _ _ h => lt_of_blk h.2)
 have k2_1 := kt hg2 1 k1_1
 have k2_2 := kt hg2 2 k1_2
 have k2_6 := kt hg2 6 r2_3
 have k2_10 := kt hg2 10 r2_7
 have k2_14 := kt hg2 14 r2_11
 have k2_15 := kt hg2 15 (hB2.is 12)
 obtain ⟨W3, hW3⟩ : ∃ W', W' = W2.setRow (s1 0) #[.int .i64 b.tab, .slice (some ⟨g1', 0, none⟩) ((b.panels).length) (c2'), .int .i64 b.height, .slice (a2) (b.top.length) (c2), .slice (a3) (b.bottom.length) (c3), .int .i64 b.slot, .bool b.isOpen] := ⟨_, rfl⟩
 refine tail_skip (o := _) rfl ⟨rfl, rfl⟩ (run_seg hW3 (fr_ev k2_15) (fr_ev k2_6) b2_0 rfl rfl rfl rfl) ?_
 obtain ⟨fB3, nb3, ot3, z3⟩ := seg_facts hW3 fB2 b2_0 (by omega)
 clear hW3
 have b3_1 := ot3 _ _ (by omega) b2_1
 have b3_2 := ot3 _ _ (by omega) br2_0
 have b3_3 := ot3 _ _ (by omega) br2_4
 have b3_4 := ot3 _ _ (by omega) br2_8
 have q16' := (q3'.other ot3 q4' (by omega) z3)
 have q17' := Nat.lt_of_lt_of_le q4' z3
 have q18' := (q8'.other ot3 q9' (by omega) z3)
 have q19' := Nat.lt_of_lt_of_le q9' z3
 have q20' := (q13'.other ot3 q14' (by omega) z3)
 have q21' := Nat.lt_of_lt_of_le q14' z3
 refine tail_value (o := _) rfl rfl rfl (v := .pointer (some ⟨(s1 0), 3, none⟩)) (by simp [go_sem, frv 19 k2_1]) ?_
 generalize hg4 : upd g2 16 (.pointer (some ⟨(s1 0), 3, none⟩)) = g4
 have k4_1 := ku hg4 1 k2_1
 have k4_2 := ku hg4 2 k2_2
 have k4_10 := ku hg4 10 k2_10
 have k4_14 := ku hg4 14 k2_14
 have k4_16 := kt hg4 16 (upd_same _ _ _)
 obtain ⟨W5, hW5⟩ : ∃ W', W' = W3.setRow (s1 0) #[.int .i64 b.tab, .slice (some ⟨g1', 0, none⟩) ((b.panels).length) (c2'), .int .i64 b.height, .slice (some ⟨g6', 0, none⟩) ((b.top).length) (c7'), .slice (a3) (b.bottom.length) (c3), .int .i64 b.slot, .bool b.isOpen] := ⟨_, rfl⟩
 refine tail_skip (o := _) rfl ⟨rfl, rfl⟩ (run_seg hW5 (fr_ev k4_16) (fr_ev k4_10) nb3 rfl rfl rfl rfl) ?_
 obtain ⟨fB5, nb5, ot5, z5⟩ := seg_facts hW5 fB3 nb3 (by omega)
 clear hW5
 have b5_1 := ot5 _ _ (by omega) b3_1
 have b5_2 := ot5 _ _ (by omega) b3_2
 have b5_3 := ot5 _ _ (by omega) b3_3
 have b5_4 := ot5 _ _ (by omega) b3_4
 have q22' := (q16'.other ot5 q17' (by omega) z5)
 have q23' := Nat.lt_of_lt_of_le q17' z5
 have q24' := (q18'.other ot5 q19' (by omega) z5)
 have q25' := Nat.lt_of_lt_of_le q19' z5
 have q26' := (q20'.other ot5 q21' (by omega) z5)
 have q27' := Nat.lt_of_lt_of_le q21' z5
 refine tail_value (o := _) rfl rfl rfl (v := .pointer (some ⟨(s1 0), 4, none⟩)) (by simp [go_sem, frv 19 k4_1]) ?_
 generalize hg6 : upd g4 17 (.pointer (some ⟨(s1 0), 4, none⟩)) = g6
 have k6_1 := ku hg6 1 k4_1
 have k6_2 := ku hg6 2 k4_2
 have k6_14 := ku hg6 14 k4_14
 have k6_17 := kt hg6 17 (upd_same _ _ _)
 obtain ⟨W7, hW7⟩ : ∃ W', W' = W5.setRow (s1 0) #[.int .i64 b.tab, .slice (some ⟨g1', 0, none⟩) ((b.panels).length) (c2'), .int .i64 b.height, .slice (some ⟨g6', 0, none⟩) ((b.top).length) (c7'), .slice (some ⟨g11', 0, none⟩) ((b.bottom).length) (c12'), .int .i64 b.slot, .bool b.isOpen] := ⟨_, rfl⟩
 refine tail_skip (o := _) rfl ⟨rfl, rfl⟩ (run_seg hW7 (fr_ev k6_17) (fr_ev k6_14) nb5 rfl rfl rfl rfl) ?_
 obtain ⟨fB7, nb7, ot7, z7⟩ := seg_facts hW7 fB5 nb5 (by omega)
 clear hW7
 have b7_1 := ot7 _ _ (by omega) b5_1
 have b7_2 := ot7 _ _ (by omega) b5_2
 have b7_3 := ot7 _ _ (by omega) b5_3
 have b7_4 := ot7 _ _ (by omega) b5_4
 have q28' := (q22'.other ot7 q23' (by omega) z7)
 have q29' := Nat.lt_of_lt_of_le q23' z7
 have q30' := (q24'.other ot7 q25' (by omega) z7)
 have q31' := Nat.lt_of_lt_of_le q25' z7
 have q32' := (q26'.other ot7 q27' (by omega) z7)
 have q33' := Nat.lt_of_lt_of_le q27' z7
 refine wpOps_end ?_
 refine hK2 _ _ ?_
 refine wp_seq_k fun K3 hK3 => ?_
 refine region_dk 1 [(18, 0)] [[], [0]] (rel [is (.agg #[.int .i64 b.tab, .slice (some ⟨g1', 0, none⟩) ((b.panels).length) (c2'), .int .i64 b.height, .slice (some ⟨g6', 0, none⟩) ((b.top).length) (c7'), .slice (some ⟨g11', 0, none⟩) ((b.bottom).length) (c12'), .int .i64 b.slot, .bool b.isOpen])])
  ⟨is_k, trivial⟩
  ⟨fun f s W c d i j a ha => opv rfl rfl (by simp [go_sem, ha.e 1 k6_1, cb nb7 c 0, cb nb7 c 1, cb nb7 c 2, cb nb7 c 3, cb nb7 c 4, cb nb7 c 5, cb nb7 c 6]) rfl, trivial⟩ ?_
 intro f8 s8 W8 hB8 g8 hg8
 have fB8 := hB8.f fB7
 have z8 := hB8.below.size
 have b8_0 := hB8.b nb7
 have b8_1 := hB8.b b7_1
 have b8_2 := hB8.b b7_2
 have b8_3 := hB8.b b7_3
 have b8_4 := hB8.b b7_4
 have q34' := q28'.bw hB8
 have q35' := (hB8.lt q29')
 have q36' := q30'.bw hB8
 have q37' := (hB8.lt q31')
 have q38' := q32'.bw hB8
 have q39' := (hB8.lt q33')
 have k8_2 := kt hg8 2 k6_2
 have k8_18 := kt hg8 18 (hB8.is 0)
 obtain ⟨W9, hW9⟩ : ∃ W', W' = W8.setRow (s1 1) #[.int .i64 b.tab, .slice (some ⟨g1', 0, none⟩) ((b.panels).length) (c2'), .int .i64 b.height, .slice (some ⟨g6', 0, none⟩) ((b.top).length) (c7'), .slice (some ⟨g11', 0, none⟩) ((b.bottom).length) (c12'), .int .i64 b.slot, .bool b.isOpen] := ⟨_, rfl⟩
 refine tail_skip (o := _) rfl ⟨rfl, rfl⟩ (run_seg hW9 (fr_ev k8_2) (fr_ev k8_18) b8_1 rfl rfl rfl rfl) ?_
 obtain ⟨fB9, nb9, ot9, z9⟩ := seg_facts hW9 fB8 b8_1 (by omega)
 clear hW9
 have b9_0 := ot9 _ _ (by omega) b8_0
 have b9_2 := ot9 _ _ (by omega) b8_2
 have b9_3 := ot9 _ _ (by omega) b8_3
 have b9_4 := ot9 _ _ (by omega) b8_4
 have q40' := (q34'.other ot9 q35' (by omega) z9)
 have q41' := Nat.lt_of_lt_of_le q35' z9
 have q42' := (q36'.other ot9 q37' (by omega) z9)
 have q43' := Nat.lt_of_lt_of_le q37' z9
 have q44' := (q38'.other ot9 q39' (by omega) z9)
 have q45' := Nat.lt_of_lt_of_le q39' z9
 refine wpOps_end ?_
 refine hK3 _ _ ?_
 refine wp_ret ?_
 refine leave_gen (v := .agg #[.int .i64 b.tab, .slice (some ⟨g1', 0, none⟩) ((b.panels).length) (c2'), .int .i64 b.height, .slice (some ⟨g6', 0, none⟩) ((b.top).length) (c7'), .slice (some ⟨g11', 0, none⟩) ((b.bottom).length) (c12'), .int .i64 b.slot, .bool b.isOpen]) (.inr rfl) (by simp [results, Try.results35, go_sem, frv 19 k8_2, cl nb9 0, cl nb9 1, cl nb9 2, cl nb9 3, cl nb9 4, cl nb9 5, cl nb9 6]) ?_
 exact ⟨_, rfl, ⟨_, _, _, _, _, _, rfl, ⟨q40', by omega, q41'⟩, ⟨q42', by omega, q43'⟩, ⟨q44', by omega, q45'⟩⟩, fB9⟩
end Go.Proofs.Ythnediamopehfaa
