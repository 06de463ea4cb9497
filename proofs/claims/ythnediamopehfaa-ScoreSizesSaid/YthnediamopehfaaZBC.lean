/- Part of the proof: what the claim leans on. -/
import Derived.Test.YthnediamopehfaaZBB
set_option linter.unusedSimpArgs false
set_option linter.unusedVariables false
namespace Go.Proofs.Ythnediamopehfaa
open Go.RowKit
def insideT (b : Bl) (cal : Int) (t : Nat → Int) (i k : Nat) : Bool := ((((i : Int) != (k : Int)) && (decide ((1000 * (t i)) ≤ (min ((panR b 0 cal)) ((panR b 2 cal)))))) && (decide ((1000 * (t k)) ≤ (min ((panR b 1 cal)) ((panR b 3 cal)))))) && (decide ((1000 * (t (3 - i - k))) ≤ (heightR b cal)))
def insideS (b : Bl) (cal : Int) (t : Nat → Int) : Bool := (List.range 3).any fun i => (List.range 3).any fun k => insideT b cal t i k
theorem insideS_true {b : Bl} {cal : Int} {t : Nat → Int} {i k : Nat} (hi : i < 3) (hk : k < 3) (h : insideT b cal t i k = true) : insideS b cal t = true :=
  List.any_eq_true.2 ⟨i, List.mem_range.2 hi, List.any_eq_true.2 ⟨k, List.mem_range.2 hk, h⟩⟩
theorem insideS_false {b : Bl} {cal : Int} {t : Nat → Int} (h : ∀ i k : Nat, i < 3 → k < 3 → insideT b cal t i k = false) : insideS b cal t = false := by
  unfold insideS
  rw [List.any_eq_false]
  intro i hi
  rw [Bool.not_eq_true, List.any_eq_false]
  intro k hk
  rw [h i k (List.mem_range.1 hi) (List.mem_range.1 hk)]
  exact Bool.false_ne_true
def insideB (b : Bl) (c x y z : Int) : Bool := ((decide (1000 * x ≤ min (panR b 0 c) (panR b 2 c)) && decide (1000 * y ≤ min (panR b 1 c) (panR b 3 c))) && decide (1000 * z ≤ heightR b c)) || (((decide (1000 * x ≤ min (panR b 0 c) (panR b 2 c)) && decide (1000 * z ≤ min (panR b 1 c) (panR b 3 c))) && decide (1000 * y ≤ heightR b c)) || (((decide (1000 * y ≤ min (panR b 0 c) (panR b 2 c)) && decide (1000 * x ≤ min (panR b 1 c) (panR b 3 c))) && decide (1000 * z ≤ heightR b c)) || (((decide (1000 * y ≤ min (panR b 0 c) (panR b 2 c)) && decide (1000 * z ≤ min (panR b 1 c) (panR b 3 c))) && decide (1000 * x ≤ heightR b c)) || (((decide (1000 * z ≤ min (panR b 0 c) (panR b 2 c)) && decide (1000 * x ≤ min (panR b 1 c) (panR b 3 c))) && decide (1000 * y ≤ heightR b c)) || (((decide (1000 * z ≤ min (panR b 0 c) (panR b 2 c)) && decide (1000 * y ≤ min (panR b 1 c) (panR b 3 c))) && decide (1000 * x ≤ heightR b c)))))))
theorem insideS_eq (b : Bl) (c x y z : Int) : insideS b c (fun j => [x, y, z].getD j 0) = insideB b c x y z := by
  simp [insideS, insideT, insideB, List.range, List.range.loop, Bool.or_assoc, Bool.and_assoc]
set_option maxRecDepth 100000 in
set_option maxHeartbeats 2000000 in
theorem insideS_any (a1 a2 a3 a4 : Option Addr) (c1 c2 c3 : Nat) (b : Bl) (cal : Int) (q4 o4 c4 : Nat) (t : Nat → Int) (w : World) (h1 : Ii w a1 b.panels.length c1 b.panels) (h2 : Ii w a2 b.top.length c2 b.top) (h3 : Ii w a3 b.bottom.length c3 b.bottom) (hq4 : a4 = some ⟨q4, o4, none⟩) (hql4 : q4 < w.heap.size) (hqc4 : ∀ j, j < 3 → w.cell? ⟨q4, o4 + j, none⟩ = some (.int .i64 (t j))) (ht : ∀ j, j < 3 → 0 ≤ t j ∧ t j ≤ 3000) (gc : 0 ≤ cal ∧ cal ≤ 100000) (gp0 : 1 ≤ b.panels.getD 0 0 ∧ b.panels.getD 0 0 ≤ 3000) (gp1 : 1 ≤ b.panels.getD 1 0 ∧ b.panels.getD 1 0 ≤ 3000) (gp2 : 1 ≤ b.panels.getD 2 0 ∧ b.panels.getD 2 0 ≤ 3000) (gp3 : 1 ≤ b.panels.getD 3 0 ∧ b.panels.getD 3 0 ≤ 3000) (gh : 1 ≤ b.height ∧ b.height ≤ 3000) (hl1 : b.panels.length = 4) :
  Calls Try.prog 23 #[.agg #[.int .i64 b.tab, .slice (a1) (b.panels.length) (c1), .int .i64 b.height, .slice (a2) (b.top.length) (c2), .slice (a3) (b.bottom.length) (c3), .int .i64 b.slot, .bool b.isOpen], .int .i64 cal, .slice (a4) (3) (c4)] w (fun e w' => e = .returned (.bool (insideS b cal t)) ∧ Below w.heap.size w w') := by
 have hm1 := h1.len_le
 refine calls_fr Try.func23 Try.ntmps23 rfl rfl fun g hg => ?_
 have k0 : g 0 = .agg #[.int .i64 b.tab, .slice (a1) (b.panels.length) (c1), .int .i64 b.height, .slice (a2) (b.top.length) (c2), .slice (a3) (b.bottom.length) (c3), .int .i64 b.slot, .bool b.isOpen] := hg 0
 have k1 : g 1 = .int .i64 cal := hg 1
 have k2 : g 2 = .slice (a4) (3) (c4) := hg 2
 clear hg
 have fB0 : Below w.heap.size w w := Below.refl _ _
 refine wp_seq_k fun K1 hK1 => ?_
 refine region_dk 2 [(3, 0), (6, 1)] [[], []] (rel [bx 0 #[.int .i64 b.tab, .slice (a1) (b.panels.length) (c1), .int .i64 b.height, .slice (a2) (b.top.length) (c2), .slice (a3) (b.bottom.length) (c3), .int .i64 b.slot, .bool b.isOpen] 24,
   is (.bool false)])
  ⟨bx_k, is_k, trivial⟩
  ⟨fun f s W l m n o q a => opb rfl rfl (by simp [go_sem, a.e 0 k0]),
  fun f s W l m n o q a => opv rfl rfl (by simp [go_sem]) rfl, trivial⟩ ?_
 intro f1 s1 W1 hB1 g1 hg1
 have fB1 := below_trans fB0 hB1.below
 have z1 := hB1.below.size
 obtain ⟨r1_0, br1_0⟩ := hB1.is 0
 have lr1_0 := hB1.lr 0 br1_0
 refine hK1 _ _ ?_
 have k1_1 := kt hg1 1 k1
 have k1_2 := kt hg1 2 k2
 have k1_3 := kt hg1 3 r1_0
 have k1_6 := kt hg1 6 (hB1.is 1)
 refine wp_seq_k fun K2 hK2 => ?_
 refine region_dk 20 [(12, 0), (13, 1), (14, 2), (15, 3), (16, 4), (17, 5), (18, 6), (19, 7), (20, 8), (21, 9), (22, 10), (23, 11), (24, 12), (25, 13), (26, 14), (27, 15), (28, 16), (7, 17), (8, 18), (9, 19)] [[], [], [0, 1], [], [], [0, 1, 2, 3, 4], [0, 1, 2, 3, 4, 5], [], [], [0, 1, 2, 3, 4, 5, 7, 8], [], [], [0, 1, 2, 3, 4, 5, 7, 8, 9, 10, 11], [0, 1, 2, 3, 4, 5, 7, 8, 9, 10, 11, 12], [], [], [0, 1, 2, 3, 4, 5, 7, 8, 9, 10, 11, 12, 14, 15], [0, 1, 2, 3, 4, 5, 6, 7, 8, 9, 10, 11, 12, 14, 15, 16], [0, 1, 2, 3, 4, 5, 6, 7, 8, 9, 10, 11, 12, 13, 14, 15, 16, 17], [0, 1, 2, 3, 4, 5, 6, 7, 8, 9, 10, 11, 12, 13, 14, 15, 16, 17, 18]] (rel [is (.agg #[.int .i64 b.tab, .slice (a1) (b.panels.length) (c1), .int .i64 b.height, .slice (a2) (b.top.length) (c2), .slice (a3) (b.bottom.length) (c3), .int .i64 b.slot, .bool b.isOpen]),
   is (.int .i64 cal),
   is (.int .i64 ((panR b 0 cal))),
   is (.agg #[.int .i64 b.tab, .slice (a1) (b.panels.length) (c1), .int .i64 b.height, .slice (a2) (b.top.length) (c2), .slice (a3) (b.bottom.length) (c3), .int .i64 b.slot, .bool b.isOpen]),
   is (.int .i64 cal),
   is (.int .i64 ((panR b 2 cal))),
   is (.int .i64 (min ((panR b 0 cal)) ((panR b 2 cal)))),
   is (.agg #[.int .i64 b.tab, .slice (a1) (b.panels.length) (c1), .int .i64 b.height, .slice (a2) (b.top.length) (c2), .slice (a3) (b.bottom.length) (c3), .int .i64 b.slot, .bool b.isOpen]),
   is (.int .i64 cal),
   is (.int .i64 ((panR b 1 cal))),
   is (.agg #[.int .i64 b.tab, .slice (a1) (b.panels.length) (c1), .int .i64 b.height, .slice (a2) (b.top.length) (c2), .slice (a3) (b.bottom.length) (c3), .int .i64 b.slot, .bool b.isOpen]),
   is (.int .i64 cal),
   is (.int .i64 ((panR b 3 cal))),
   is (.int .i64 (min ((panR b 1 cal)) ((panR b 3 cal)))),
   is (.agg #[.int .i64 b.tab, .slice (a1) (b.panels.length) (c1), .int .i64 b.height, .slice (a2) (b.top.length) (c2), .slice (a3) (b.bottom.length) (c3), .int .i64 b.slot, .bool b.isOpen]),
   is (.int .i64 cal),
   is (.int .i64 ((heightR b cal))),
   is (.int .i64 (min ((panR b 0 cal)) ((panR b 2 cal)))),
   is (.int .i64 (min ((panR b 1 cal)) ((panR b 3 cal)))),
   is (.int .i64 ((heightR b cal)))])
  ⟨is_k, is_k, is_k, is_k, is_k, is_k, is_k, is_k, is_k, is_k, is_k, is_k, is_k, is_k, is_k, is_k, is_k, is_k, is_k, is_k, trivial⟩
  ⟨fun f s W l m n o q a => opv rfl rfl (by simp [go_sem, a.e 3 k1_3, Joins.cell_of_block (blk_below br1_0 l) 0, Joins.cell_of_block (blk_below br1_0 l) 1, Joins.cell_of_block (blk_below br1_0 l) 2, Joins.cell_of_block (blk_below br1_0 l) 3, Joins.cell_of_block (blk_below br1_0 l) 4, Joins.cell_of_block (blk_below br1_0 l) 5, Joins.cell_of_block (blk_below br1_0 l) 6]) rfl,
  fun f s W l m n o q a => opv rfl rfl (by simp [go_sem, a.e 1 k1_1]) rfl,
  fun f s W l m n o q a => by have r := below_trans fB1 l; exact opc (args := #[.agg #[.int .i64 b.tab, .slice (a1) (b.panels.length) (c1), .int .i64 b.height, .slice (a2) (b.top.length) (c2), .slice (a3) (b.bottom.length) (c3), .int .i64 b.slot, .bool b.isOpen], .int .i64 0, .int .i64 cal]) rfl rfl (by simp [go_sem, a.e 12 (m 0 rfl), a.e 13 (m 1 rfl)]) (panR_any a1 a2 a3 c1 c2 c3 b 0 0 _ cal W (h1.below r (Nat.le_refl _)) (h2.below r (Nat.le_refl _)) (h3.below r (Nat.le_refl _)) rfl (by omega) rfl (by omega) (by omega) (by omega) (by omega)),
  fun f s W l m n o q a => opv rfl rfl (by simp [go_sem, a.e 3 k1_3, Joins.cell_of_block (blk_below br1_0 l) 0, Joins.cell_of_block (blk_below br1_0 l) 1, Joins.cell_of_block (blk_below br1_0 l) 2, Joins.cell_of_block (blk_below br1_0 l) 3, Joins.cell_of_block (blk_below br1_0 l) 4, Joins.cell_of_block (blk_below br1_0 l) 5, Joins.cell_of_block (blk_below br1_0 l) 6]) rfl,
  fun f s W l m n o q a => opv rfl rfl (by simp [go_sem, a.e 1 k1_1]) rfl,
  fun f s W l m n o q a => by have r := below_trans fB1 l; exact opc (args := #[.agg #[.int .i64 b.tab, .slice (a1) (b.panels.length) (c1), .int .i64 b.height, .slice (a2) (b.top.length) (c2), .slice (a3) (b.bottom.length) (c3), .int .i64 b.slot, .bool b.isOpen], .int .i64 2, .int .i64 cal]) rfl rfl (by simp [go_sem, a.e 15 (m 3 rfl), a.e 16 (m 4 rfl)]) (panR_any a1 a2 a3 c1 c2 c3 b 2 2 _ cal W (h1.below r (Nat.le_refl _)) (h2.below r (Nat.le_refl _)) (h3.below r (Nat.le_refl _)) rfl (by omega) rfl (by omega) (by omega) (by omega) (by omega)),
  fun f s W l m n o q a => opv rfl rfl (by simp [go_sem, a.e 14 (m 2 rfl), a.e 17 (m 5 rfl)]) rfl,
  fun f s W l m n o q a => opv rfl rfl (by simp [go_sem, a.e 3 k1_3, Joins.cell_of_block (blk_below br1_0 l) 0, Joins.cell_of_block (blk_below br1_0 l) 1, Joins.cell_of_block (blk_below br1_0 l) 2, Joins.cell_of_block (blk_below br1_0 l) 3, Joins.cell_of_block (blk_below br1_0 l) 4, Joins.cell_of_block (blk_below br1_0 l) 5, Joins.cell_of_block (blk_below br1_0 l) 6]) rfl,
  fun f s W l m n o q a => opv rfl rfl (by simp [go_sem, a.e 1 k1_1]) rfl,
  fun f s W l m n o q a => by have r := below_trans fB1 l; exact opc (args := #[.agg #[.int .i64 b.tab, .slice (a1) (b.panels.length) (c1), .int .i64 b.height, .slice (a2) (b.top.length) (c2), .slice (a3) (b.bottom.length) (c3), .int .i64 b.slot, .bool b.isOpen], .int .i64 1, .int .i64 cal]) rfl rfl (by simp [go_sem, a.e 19 (m 7 rfl), a.e 20 (m 8 rfl)]) (panR_any a1 a2 a3 c1 c2 c3 b 1 1 _ cal W (h1.below r (Nat.le_refl _)) (h2.below r (Nat.le_refl _)) (h3.below r (Nat.le_refl _)) rfl (by omega) rfl (by omega) (by omega) (by omega) (by omega)),
  fun f s W l m n o q a => opv rfl rfl (by simp [go_sem, a.e 3 k1_3, Joins.cell_of_block (blk_below br1_0 l) 0, Joins.cell_of_block (blk_below br1_0 l) 1, Joins.cell_of_block (blk_below br1_0 l) 2, Joins.cell_of_block (blk_below br1_0 l) 3, Joins.cell_of_block (blk_below br1_0 l) 4, Joins.cell_of_block (blk_below br1_0 l) 5, Joins.cell_of_block (blk_below br1_0 l) 6]) rfl,
  fun f s W l m n o q a => opv rfl rfl (by simp [go_sem, a.e 1 k1_1]) rfl,
  fun f s W l m n o q a => by have r := below_trans fB1 l; exact opc (args := #[.agg #[.int .i64 b.tab, .slice (a1) (b.panels.length) (c1), .int .i64 b.height, .slice (a2) (b.top.length) (c2), .slice (a3) (b.bottom.length) (c3), .int .i64 b.slot, .bool b.isOpen], .int .i64 3, .int .i64 cal]) rfl rfl (by simp [go_sem, a.e 22 (m 10 rfl), a.e 23 (m 11 rfl)]) (panR_any a1 a2 a3 c1 c2 c3 b 3 3 _ cal W (h1.below r (Nat.le_refl _)) (h2.below r (Nat.le_refl _)) (h3.below r (Nat.le_refl _)) rfl (by omega) rfl (by omega) (by omega) (by omega) (by omega)),
  fun f s W l m n o q a => opv rfl rfl (by simp [go_sem, a.e 21 (m 9 rfl), a.e 24 (m 12 rfl)]) rfl,
  fun f s W l m n o q a => opv rfl rfl (by simp [go_sem, a.e 3 k1_3, Joins.cell_of_block (blk_below br1_0 l) 0, Joins.cell_of_block (blk_below br1_0 l) 1, Joins.cell_of_block (blk_below br1_0 l) 2, Joins.cell_of_block (blk_below br1_0 l) 3, Joins.cell_of_block (blk_below br1_0 l) 4, Joins.cell_of_block (blk_below br1_0 l) 5, Joins.cell_of_block (blk_below br1_0 l) 6]) rfl,
  fun f s W l m n o q a => opv rfl rfl (by simp [go_sem, a.e 1 k1_1]) rfl,
  fun f s W l m n o q a => by have r := below_trans fB1 l; exact opc rfl rfl (by simp [go_sem, a.e 26 (m 14 rfl), a.e 27 (m 15 rfl)]) (heightR_any a1 a2 a3 c1 c2 c3 b cal W (h1.below r (Nat.le_refl _)) (h2.below r (Nat.le_refl _)) (h3.below r (Nat.le_refl _)) (by omega) (by omega) (by omega) (by omega)),
  fun f s W l m n o q a => opv rfl rfl (by simp [go_sem, a.e 18 (m 6 rfl)]) rfl,
  fun f s W l m n o q a => opv rfl rfl (by simp [go_sem, a.e 25 (m 13 rfl)]) rfl,
  fun f s W l m n o q a => opv rfl rfl (by simp [go_sem, a.e 28 (m 16 rfl)]) rfl, trivial⟩ ?_
 intro f2 s2 W2 hB2 g2 hg2
 have fB2 := below_trans fB1 hB2.below
 have z2 := hB2.below.size
 have b2_0 := blk_below br1_0 hB2.below
 refine hK2 _ _ ?_
 have k2_2 := kt hg2 2 k1_2
 have k2_6 := kt hg2 6 k1_6
 have k2_7 := kt hg2 7 (hB2.is 17)
 have k2_8 := kt hg2 8 (hB2.is 18)
 have k2_9 := kt hg2 9 (hB2.is 19)
 refine wp_seq_k fun K3 hK3 => ?_
 refine wp_seq_k fun K4 hK4 => ?_
 refine region_dk 1 [(10, 0)] [[]] (rel [is (.int .i64 0)])
  ⟨is_k, trivial⟩
  ⟨fun f s W l m n o q a => opv rfl rfl (by simp [go_sem]) rfl, trivial⟩ ?_
 intro f3 s3 W3 hB3 g3 hg3
 have fB3 := below_trans fB2 hB3.below
 have z3 := hB3.below.size
 have b3_0 := blk_below b2_0 hB3.below
 refine hK4 _ _ ?_
 have k3_2 := kt hg3 2 k2_2
 have k3_6 := kt hg3 6 k2_6
 have k3_7 := kt hg3 7 k2_7
 have k3_8 := kt hg3 8 k2_8
 have k3_9 := kt hg3 9 k2_9
 have k3_10 := kt hg3 10 (hB3.is 0)
 refine wp_block ?_
 refine wp_loop_n (fun m_ a_ W_ => ∃ g_ : Nat → Value, a_ = fr 70 g_ ∧ (∃ i : Nat, m_ = 3 - i ∧ g_ 2 = .slice (a4) (3) (c4) ∧ g_ 6 = .bool false ∧ g_ 7 = .int .i64 (min ((panR b 0 cal)) ((panR b 2 cal))) ∧ g_ 8 = .int .i64 (min ((panR b 1 cal)) ((panR b 3 cal))) ∧ g_ 9 = .int .i64 ((heightR b cal)) ∧ g_ 10 = .int .i64 ((i : Int)) ∧ Below w.heap.size w W_ ∧ W3.heap.size ≤ W_.heap.size ∧ W_.heap[(s1 0)]? = some (.cells #[.int .i64 b.tab, .slice (a1) (b.panels.length) (c1), .int .i64 b.height, .slice (a2) (b.top.length) (c2), .slice (a3) (b.bottom.length) (c3), .int .i64 b.slot, .bool b.isOpen] 24 (0, 0)) ∧ (i ≤ 3) ∧ (∀ i' k' : Nat, i' < 3 → k' < 3 → (i' < i ∨ (i' = i ∧ k' < 0)) → insideT b cal t i' k' = false))) ⟨_, g3, rfl, 0, rfl, k3_2, k3_6, k3_7, k3_8, k3_9, k3_10.trans (by rfl), fB3, Nat.le_refl _, b3_0, (by omega), (fun i' k' _ _ h => by omega)⟩ ?_
 rintro _ _ W_11 ⟨g_11, rfl, i, rfl, k_11_2, k_11_6, k_11_7, k_11_8, k_11_9, k_11_10, fB_11, z_11, b_11_0, jo0, jo1⟩
 refine wp_seq_k fun K5 hK5 => ?_
 refine wp_seq_k fun K6 hK6 => ?_
 refine region_dk 2 [(29, 0), (30, 1)] [[], [0]] (rel [is (.int .i64 ((i : Int))),
   is (.bool (decide ((i : Int) < 3)))])
  ⟨is_k, is_k, trivial⟩
  ⟨fun f s W l m n o q a => opv rfl rfl (by simp [go_sem, a.e 10 k_11_10]) rfl,
  fun f s W l m n o q a => opv rfl rfl (by simp [go_sem, a.e 29 (m 0 rfl)]) rfl, trivial⟩ ?_
 intro f4 s4 W4 hB4 g4 hg4
 have fB4 := below_trans fB_11 hB4.below
 have z4 := hB4.below.size
 have b4_0 := blk_below b_11_0 hB4.below
 refine hK6 _ _ ?_
 have k4_2 := kt hg4 2 k_11_2
 have k4_6 := kt hg4 6 k_11_6
 have k4_7 := kt hg4 7 k_11_7
 have k4_8 := kt hg4 8 k_11_8
 have k4_9 := kt hg4 9 k_11_9
 have k4_10 := kt hg4 10 k_11_10
 have k4_30 := kt hg4 30 (hB4.is 1)
 refine wp_cond_split (t := decide ((i : Int) < 3)) ((fr_eval rfl).trans k4_30) (fun hc7 => ?_) (fun hc7 => ?_)
 ·
  have hc7' := hc7; try simp only [decide_eq_true_eq, decide_eq_false_iff_not, Bool.and_eq_true, Bool.or_eq_true, Bool.and_eq_false_iff, Bool.or_eq_false_iff, beq_iff_eq, bne_iff_ne, Bool.not_eq_true', Bool.not_eq_false', ne_eq, bne_eq_false_iff_eq, beq_eq_false_iff_ne] at hc7'
  have li : i < 3 := by omega
  have li3 : ¬ (3 : Int) ≤ (i : Int) := by omega
  have ti := ht i li
  refine wp_skip ?_
  refine hK5 _ _ ?_
  refine wp_seq_k fun K8 hK8 => ?_
  refine wp_block ?_
  refine wp_seq_k fun K9 hK9 => ?_
  refine region_dk 1 [(11, 0)] [[]] (rel [is (.int .i64 0)])
   ⟨is_k, trivial⟩
   ⟨fun f s W l m n o q a => opv rfl rfl (by simp [go_sem]) rfl, trivial⟩ ?_
  intro f5 s5 W5 hB5 g5 hg5
  have fB5 := below_trans fB4 hB5.below
  have z5 := hB5.below.size
  have b5_0 := blk_below b4_0 hB5.below
  refine hK9 _ _ ?_
  have k5_2 := kt hg5 2 k4_2
  have k5_6 := kt hg5 6 k4_6
  have k5_7 := kt hg5 7 k4_7
  have k5_8 := kt hg5 8 k4_8
  have k5_9 := kt hg5 9 k4_9
  have k5_10 := kt hg5 10 k4_10
  have k5_11 := kt hg5 11 (hB5.is 0)
  refine wp_block ?_
  refine wp_loop_n (fun m_ a_ W_ => ∃ g_ : Nat → Value, a_ = fr 70 g_ ∧ (∃ k : Nat, m_ = 3 - k ∧ g_ 2 = .slice (a4) (3) (c4) ∧ g_ 6 = .bool false ∧ g_ 7 = .int .i64 (min ((panR b 0 cal)) ((panR b 2 cal))) ∧ g_ 8 = .int .i64 (min ((panR b 1 cal)) ((panR b 3 cal))) ∧ g_ 9 = .int .i64 ((heightR b cal)) ∧ g_ 10 = .int .i64 ((i : Int)) ∧ g_ 11 = .int .i64 ((k : Int)) ∧ Below w.heap.size w W_ ∧ W5.heap.size ≤ W_.heap.size ∧ W_.heap[(s1 0)]? = some (.cells #[.int .i64 b.tab, .slice (a1) (b.panels.length) (c1), .int .i64 b.height, .slice (a2) (b.top.length) (c2), .slice (a3) (b.bottom.length) (c3), .int .i64 b.slot, .bool b.isOpen] 24 (0, 0)) ∧ (k ≤ 3) ∧ (∀ i' k' : Nat, i' < 3 → k' < 3 → (i' < i ∨ (i' = i ∧ k' < k)) → insideT b cal t i' k' = false))) ⟨_, g5, rfl, 0, rfl, k5_2, k5_6, k5_7, k5_8, k5_9, k5_10, k5_11.trans (by rfl), fB5, Nat.le_refl _, b5_0, (by omega), (fun i' k' hi' hk' h => jo1 i' k' hi' hk' (by omega))⟩ ?_
  rintro _ _ W_12 ⟨g_12, rfl, k, rfl, k_12_2, k_12_6, k_12_7, k_12_8, k_12_9, k_12_10, k_12_11, fB_12, z_12, b_12_0, lp0, lp1⟩
  refine wp_seq_k fun K10 hK10 => ?_
  refine wp_seq_k fun K11 hK11 => ?_
  refine region_dk 2 [(33, 0), (34, 1)] [[], [0]] (rel [is (.int .i64 ((k : Int))),
   is (.bool (decide ((k : Int) < 3)))])
   ⟨is_k, is_k, trivial⟩
   ⟨fun f s W l m n o q a => opv rfl rfl (by simp [go_sem, a.e 11 k_12_11]) rfl,
  fun f s W l m n o q a => opv rfl rfl (by simp [go_sem, a.e 33 (m 0 rfl)]) rfl, trivial⟩ ?_
  intro f6 s6 W6 hB6 g6 hg6
  have fB6 := below_trans fB_12 hB6.below
  have z6 := hB6.below.size
  have b6_0 := blk_below b_12_0 hB6.below
  refine hK11 _ _ ?_
  have k6_2 := kt hg6 2 k_12_2
  have k6_6 := kt hg6 6 k_12_6
  have k6_7 := kt hg6 7 k_12_7
  have k6_8 := kt hg6 8 k_12_8
  have k6_9 := kt hg6 9 k_12_9
  have k6_10 := kt hg6 10 k_12_10
  have k6_11 := kt hg6 11 k_12_11
  have k6_34 := kt hg6 34 (hB6.is 1)
  refine wp_cond_split (t := decide ((k : Int) < 3)) ((fr_eval rfl).trans k6_34) (fun hc12 => ?_) (fun hc12 => ?_)
  ·
   have hc12' := hc12; try simp only [decide_eq_true_eq, decide_eq_false_iff_not, Bool.and_eq_true, Bool.or_eq_true, Bool.and_eq_false_iff, Bool.or_eq_false_iff, beq_iff_eq, bne_iff_ne, Bool.not_eq_true', Bool.not_eq_false', ne_eq, bne_eq_false_iff_eq, beq_eq_false_iff_ne] at hc12'
   have lk : k < 3 := by omega
   have lk3 : ¬ (3 : Int) ≤ (k : Int) := by omega
   have tk := ht k lk
   refine wp_skip ?_
   refine hK10 _ _ ?_
   refine wp_seq_k fun K13 hK13 => ?_
   refine wp_block ?_
   refine wp_seq_k fun K14 hK14 => ?_
   refine region_dk 33 [(37, 0), (38, 1), (39, 2), (40, 3), (41, 4), (42, 5), (43, 6), (44, 7), (45, 8), (46, 9), (47, 10), (48, 11), (49, 12), (50, 13), (51, 14), (52, 15), (53, 16), (54, 17), (55, 18), (56, 19), (57, 20), (58, 21), (59, 22), (60, 23), (61, 24), (62, 25), (63, 26), (64, 27), (65, 28), (66, 29), (67, 30), (68, 31), (69, 32)] [[], [], [0, 1], [0, 1, 2], [0, 1, 2, 3], [0, 1, 2, 3], [0, 1, 2, 3, 4, 5], [0, 1, 2, 3, 4, 5, 6], [0, 1, 2, 3, 4, 5, 6, 7], [0, 1, 2, 3], [0, 1, 2, 3, 4, 5, 6, 7, 8, 9], [0, 1, 2, 3, 4, 5, 6, 7, 8, 9, 10], [0, 1, 2, 3, 4, 5, 6, 7, 8, 9, 10, 11], [0, 1, 2, 3, 4, 5, 6, 7, 8, 9, 10, 11, 12], [0, 1, 2, 3, 4, 5, 6, 7, 8, 9, 10, 11, 12], [0, 1, 2, 3, 4, 5, 6, 7, 8, 9, 10, 11, 12, 13, 14], [0, 1, 2, 3, 4, 5, 6, 7, 8, 9, 10, 11, 12, 13, 14, 15], [0, 1, 2, 3, 4, 5, 6, 7, 8, 9, 10, 11, 12, 13, 14, 15, 16], [0, 1, 2, 3, 4, 5, 6, 7, 8, 9, 10, 11, 12], [0, 1, 2, 3, 4, 5, 6, 7, 8, 9, 10, 11, 12, 13, 14, 15, 16, 17, 18], [0, 1, 2, 3, 4, 5, 6, 7, 8, 9, 10, 11, 12, 13, 14, 15, 16, 17, 18, 19], [0, 1, 2, 3, 4, 5, 6, 7, 8, 9, 10, 11, 12, 13, 14, 15, 16, 17, 18, 19, 20], [0, 1, 2, 3, 4, 5, 6, 7, 8, 9, 10, 11, 12, 13, 14, 15, 16, 17, 18, 19, 20, 21], [0, 1, 2, 3, 4, 5, 6, 7, 8, 9, 10, 11, 12, 13, 14, 15, 16, 17, 18, 19, 20, 21], [0, 1, 2, 3, 4, 5, 6, 7, 8, 9, 10, 11, 12, 13, 14, 15, 16, 17, 18, 19, 20, 21, 23], [0, 1, 2, 3, 4, 5, 6, 7, 8, 9, 10, 11, 12, 13, 14, 15, 16, 17, 18, 19, 20, 21], [0, 1, 2, 3, 4, 5, 6, 7, 8, 9, 10, 11, 12, 13, 14, 15, 16, 17, 18, 19, 20, 21, 23, 24, 25], [0, 1, 2, 3, 4, 5, 6, 7, 8, 9, 10, 11, 12, 13, 14, 15, 16, 17, 18, 19, 20, 21, 22, 23, 24, 25, 26], [0, 1, 2, 3, 4, 5, 6, 7, 8, 9, 10, 11, 12, 13, 14, 15, 16, 17, 18, 19, 20, 21, 22, 23, 24, 25, 26, 27], [0, 1, 2, 3, 4, 5, 6, 7, 8, 9, 10, 11, 12, 13, 14, 15, 16, 17, 18, 19, 20, 21, 22, 23, 24, 25, 26, 27, 28], [0, 1, 2, 3, 4, 5, 6, 7, 8, 9, 10, 11, 12, 13, 14, 15, 16, 17, 18, 19, 20, 21], [0, 1, 2, 3, 4, 5, 6, 7, 8, 9, 10, 11, 12, 13, 14, 15, 16, 17, 18, 19, 20, 21, 22, 23, 24, 25, 26, 27, 28, 29, 30], [0, 1, 2, 3, 4, 5, 6, 7, 8, 9, 10, 11, 12, 13, 14, 15, 16, 17, 18, 19, 20, 21, 22, 23, 24, 25, 26, 27, 28, 29, 30, 31]] (rel [is (.int .i64 ((i : Int))),
   is (.int .i64 ((k : Int))),
   is (.bool ((i : Int) != (k : Int))),
   is (.bool ((i : Int) != (k : Int))),
   gd ((i : Int) != (k : Int)) true (is (.slice (a4) (3) (c4))),
   gd ((i : Int) != (k : Int)) true (is (.int .i64 ((i : Int)))),
   gd ((i : Int) != (k : Int)) true (is (.pointer (some ⟨q4, o4 + i, none⟩))),
   gd ((i : Int) != (k : Int)) true (is (.int .i64 ((t i)))),
   gd ((i : Int) != (k : Int)) true (is (.int .i64 (1000 * (t i)))),
   gd ((i : Int) != (k : Int)) true (is (.int .i64 (min ((panR b 0 cal)) ((panR b 2 cal))))),
   gd ((i : Int) != (k : Int)) true (is (.bool (decide ((1000 * (t i)) ≤ (min ((panR b 0 cal)) ((panR b 2 cal))))))),
   is (.bool (((i : Int) != (k : Int)) && (decide ((1000 * (t i)) ≤ (min ((panR b 0 cal)) ((panR b 2 cal))))))),
   is (.bool (((i : Int) != (k : Int)) && (decide ((1000 * (t i)) ≤ (min ((panR b 0 cal)) ((panR b 2 cal))))))),
   gd (((i : Int) != (k : Int)) && (decide ((1000 * (t i)) ≤ (min ((panR b 0 cal)) ((panR b 2 cal)))))) true (is (.slice (a4) (3) (c4))),
   gd (((i : Int) != (k : Int)) && (decide ((1000 * (t i)) ≤ (min ((panR b 0 cal)) ((panR b 2 cal)))))) true (is (.int .i64 ((k : Int)))),
   gd (((i : Int) != (k : Int)) && (decide ((1000 * (t i)) ≤ (min ((panR b 0 cal)) ((panR b 2 cal)))))) true (is (.pointer (some ⟨q4, o4 + k, none⟩))),
   gd (((i : Int) != (k : Int)) && (decide ((1000 * (t i)) ≤ (min ((panR b 0 cal)) ((panR b 2 cal)))))) true (is (.int .i64 ((t k)))),
   gd (((i : Int) != (k : Int)) && (decide ((1000 * (t i)) ≤ (min ((panR b 0 cal)) ((panR b 2 cal)))))) true (is (.int .i64 (1000 * (t k)))),
   gd (((i : Int) != (k : Int)) && (decide ((1000 * (t i)) ≤ (min ((panR b 0 cal)) ((panR b 2 cal)))))) true (is (.int .i64 (min ((panR b 1 cal)) ((panR b 3 cal))))),
   gd (((i : Int) != (k : Int)) && (decide ((1000 * (t i)) ≤ (min ((panR b 0 cal)) ((panR b 2 cal)))))) true (is (.bool (decide ((1000 * (t k)) ≤ (min ((panR b 1 cal)) ((panR b 3 cal))))))),
   is (.bool ((((i : Int) != (k : Int)) && (decide ((1000 * (t i)) ≤ (min ((panR b 0 cal)) ((panR b 2 cal)))))) && (decide ((1000 * (t k)) ≤ (min ((panR b 1 cal)) ((panR b 3 cal))))))),
   is (.bool ((((i : Int) != (k : Int)) && (decide ((1000 * (t i)) ≤ (min ((panR b 0 cal)) ((panR b 2 cal)))))) && (decide ((1000 * (t k)) ≤ (min ((panR b 1 cal)) ((panR b 3 cal))))))),
   gd ((((i : Int) != (k : Int)) && (decide ((1000 * (t i)) ≤ (min ((panR b 0 cal)) ((panR b 2 cal)))))) && (decide ((1000 * (t k)) ≤ (min ((panR b 1 cal)) ((panR b 3 cal)))))) true (is (.slice (a4) (3) (c4))),
   gd ((((i : Int) != (k : Int)) && (decide ((1000 * (t i)) ≤ (min ((panR b 0 cal)) ((panR b 2 cal)))))) && (decide ((1000 * (t k)) ≤ (min ((panR b 1 cal)) ((panR b 3 cal)))))) true (is (.int .i64 ((i : Int)))),
   gd ((((i : Int) != (k : Int)) && (decide ((1000 * (t i)) ≤ (min ((panR b 0 cal)) ((panR b 2 cal)))))) && (decide ((1000 * (t k)) ≤ (min ((panR b 1 cal)) ((panR b 3 cal)))))) true (is (.int .i64 (3 - (i : Int)))),
   gd ((((i : Int) != (k : Int)) && (decide ((1000 * (t i)) ≤ (min ((panR b 0 cal)) ((panR b 2 cal)))))) && (decide ((1000 * (t k)) ≤ (min ((panR b 1 cal)) ((panR b 3 cal)))))) true (is (.int .i64 ((k : Int)))),
   gd ((((i : Int) != (k : Int)) && (decide ((1000 * (t i)) ≤ (min ((panR b 0 cal)) ((panR b 2 cal)))))) && (decide ((1000 * (t k)) ≤ (min ((panR b 1 cal)) ((panR b 3 cal)))))) true (is (.int .i64 ((3 - (i : Int)) - (k : Int)))),
   gd ((((i : Int) != (k : Int)) && (decide ((1000 * (t i)) ≤ (min ((panR b 0 cal)) ((panR b 2 cal)))))) && (decide ((1000 * (t k)) ≤ (min ((panR b 1 cal)) ((panR b 3 cal)))))) true (is (.pointer (some ⟨q4, o4 + (3 - i - k), none⟩))),
   gd ((((i : Int) != (k : Int)) && (decide ((1000 * (t i)) ≤ (min ((panR b 0 cal)) ((panR b 2 cal)))))) && (decide ((1000 * (t k)) ≤ (min ((panR b 1 cal)) ((panR b 3 cal)))))) true (is (.int .i64 ((t (3 - i - k))))),
   gd ((((i : Int) != (k : Int)) && (decide ((1000 * (t i)) ≤ (min ((panR b 0 cal)) ((panR b 2 cal)))))) && (decide ((1000 * (t k)) ≤ (min ((panR b 1 cal)) ((panR b 3 cal)))))) true (is (.int .i64 (1000 * (t (3 - i - k))))),
   gd ((((i : Int) != (k : Int)) && (decide ((1000 * (t i)) ≤ (min ((panR b 0 cal)) ((panR b 2 cal)))))) && (decide ((1000 * (t k)) ≤ (min ((panR b 1 cal)) ((panR b 3 cal)))))) true (is (.int .i64 ((heightR b cal)))),
   gd ((((i : Int) != (k : Int)) && (decide ((1000 * (t i)) ≤ (min ((panR b 0 cal)) ((panR b 2 cal)))))) && (decide ((1000 * (t k)) ≤ (min ((panR b 1 cal)) ((panR b 3 cal)))))) true (is (.bool (decide ((1000 * (t (3 - i - k))) ≤ (heightR b cal))))),
   is (.bool (((((i : Int) != (k : Int)) && (decide ((1000 * (t i)) ≤ (min ((panR b 0 cal)) ((panR b 2 cal)))))) && (decide ((1000 * (t k)) ≤ (min ((panR b 1 cal)) ((panR b 3 cal)))))) && (decide ((1000 * (t (3 - i - k))) ≤ (heightR b cal)))))])
    ⟨is_k, is_k, is_k, is_k, gd_k (is_k), gd_k (is_k), gd_k (is_k), gd_k (is_k), gd_k (is_k), gd_k (is_k), gd_k (is_k), is_k, is_k, gd_k (is_k), gd_k (is_k), gd_k (is_k), gd_k (is_k), gd_k (is_k), gd_k (is_k), gd_k (is_k), is_k, is_k, gd_k (is_k), gd_k (is_k), gd_k (is_k), gd_k (is_k), gd_k (is_k), gd_k (is_k), gd_k (is_k), gd_k (is_k), gd_k (is_k), gd_k (is_k), is_k, trivial⟩
    ⟨fun f s W l m n o q a => opv rfl rfl (by simp [go_sem, a.e 10 k6_10]) rfl,
  fun f s W l m n o q a => opv rfl rfl (by simp [go_sem, a.e 11 k6_11]) rfl,
  fun f s W l m n o q a => opv rfl rfl (by simp [go_sem, a.e 37 (m 0 rfl), a.e 38 (m 1 rfl)]) rfl,
  fun f s W l m n o q a => opv rfl rfl (by simp [go_sem, a.e 39 (m 2 rfl)]) rfl,
  fun f s W l m n o q a => gdo rfl rfl (a.says (d := 40) rfl rfl (m 3 rfl)) fun hgd0 => gv (by simp [go_sem, a.e 2 k6_2]) rfl,
  fun f s W l m n o q a => gdo rfl rfl (a.says (d := 40) rfl rfl (m 3 rfl)) fun hgd0 => gv (by simp [go_sem, a.e 10 k6_10]) rfl,
  fun f s W l m n o q a => gdo rfl rfl (a.says (d := 40) rfl rfl (m 3 rfl)) fun hgd0 => gv (by simp [go_sem, a.e 41 ((m 4 rfl).1 hgd0), a.e 42 ((m 5 rfl).1 hgd0), hq4, li3]) rfl,
  fun f s W l m n o q a => gdo rfl rfl (a.says (d := 40) rfl rfl (m 3 rfl)) fun hgd0 => by have r := below_trans fB6 l; have u4_ : W.cell? ⟨q4, o4 + i, none⟩ = some (.int .i64 (t i)) := (r.cell (p := ⟨q4, o4 + i, none⟩) hql4).trans (hqc4 i li); exact gv (by simp [go_sem, a.e 43 ((m 6 rfl).1 hgd0), u4_]) rfl,
  fun f s W l m n o q a => gdo rfl rfl (a.says (d := 40) rfl rfl (m 3 rfl)) fun hgd0 => gv (by simp [go_sem, a.e 44 ((m 7 rfl).1 hgd0), IntWalk.i64_in (1000 * (t i)) (by omega)]) rfl,
  fun f s W l m n o q a => gdo rfl rfl (a.says (d := 40) rfl rfl (m 3 rfl)) fun hgd0 => gv (by simp [go_sem, a.e 7 k6_7]) rfl,
  fun f s W l m n o q a => gdo rfl rfl (a.says (d := 40) rfl rfl (m 3 rfl)) fun hgd0 => gv (by simp [go_sem, a.e 45 ((m 8 rfl).1 hgd0), a.e 46 ((m 9 rfl).1 hgd0)]) rfl,
  fun f s W l m n o q a => opk (c := (i : Int) != (k : Int)) rfl rfl (fun hpk => by first | (simp [go_sem, hpk, a.e 40 (m 3 rfl)]; done) | (have hpk' := hpk; simp at hpk'; simp [go_sem, hpk', hpk, a.e 40 (m 3 rfl)])) (fun hpk => by first | (simp [go_sem, hpk, a.e 40 (m 3 rfl), a.e 47 ((m 10 rfl).1 hpk)]; done) | (have hpk' := hpk; simp at hpk'; simp [go_sem, hpk', hpk, a.e 40 (m 3 rfl), a.e 47 ((m 10 rfl).1 hpk)])),
  fun f s W l m n o q a => opv rfl rfl (by simp [go_sem, a.e 48 (m 11 rfl)]) rfl,
  fun f s W l m n o q a => gdo rfl rfl (a.says (d := 49) rfl rfl (m 12 rfl)) fun hgd0 => gv (by simp [go_sem, a.e 2 k6_2]) rfl,
  fun f s W l m n o q a => gdo rfl rfl (a.says (d := 49) rfl rfl (m 12 rfl)) fun hgd0 => gv (by simp [go_sem, a.e 11 k6_11]) rfl,
  fun f s W l m n o q a => gdo rfl rfl (a.says (d := 49) rfl rfl (m 12 rfl)) fun hgd0 => gv (by simp [go_sem, a.e 50 ((m 13 rfl).1 hgd0), a.e 51 ((m 14 rfl).1 hgd0), hq4, lk3]) rfl,
  fun f s W l m n o q a => gdo rfl rfl (a.says (d := 49) rfl rfl (m 12 rfl)) fun hgd0 => by have r := below_trans fB6 l; have u4_ : W.cell? ⟨q4, o4 + k, none⟩ = some (.int .i64 (t k)) := (r.cell (p := ⟨q4, o4 + k, none⟩) hql4).trans (hqc4 k lk); exact gv (by simp [go_sem, a.e 52 ((m 15 rfl).1 hgd0), u4_]) rfl,
  fun f s W l m n o q a => gdo rfl rfl (a.says (d := 49) rfl rfl (m 12 rfl)) fun hgd0 => gv (by simp [go_sem, a.e 53 ((m 16 rfl).1 hgd0), IntWalk.i64_in (1000 * (t k)) (by omega)]) rfl,
  fun f s W l m n o q a => gdo rfl rfl (a.says (d := 49) rfl rfl (m 12 rfl)) fun hgd0 => gv (by simp [go_sem, a.e 8 k6_8]) rfl,
  fun f s W l m n o q a => gdo rfl rfl (a.says (d := 49) rfl rfl (m 12 rfl)) fun hgd0 => gv (by simp [go_sem, a.e 54 ((m 17 rfl).1 hgd0), a.e 55 ((m 18 rfl).1 hgd0)]) rfl,
  fun f s W l m n o q a => opk (c := ((i : Int) != (k : Int)) && (decide ((1000 * (t i)) ≤ (min ((panR b 0 cal)) ((panR b 2 cal)))))) rfl rfl (fun hpk => by first | (simp [go_sem, hpk, a.e 49 (m 12 rfl)]; done) | (have hpk' := hpk; simp at hpk'; simp [go_sem, hpk', hpk, a.e 49 (m 12 rfl)])) (fun hpk => by first | (simp [go_sem, hpk, a.e 49 (m 12 rfl), a.e 56 ((m 19 rfl).1 hpk)]; done) | (have hpk' := hpk; simp at hpk'; simp [go_sem, hpk', hpk, a.e 49 (m 12 rfl), a.e 56 ((m 19 rfl).1 hpk)])),
  fun f s W l m n o q a => opv rfl rfl (by simp [go_sem, a.e 57 (m 20 rfl)]) rfl,
  fun f s W l m n o q a => gdo rfl rfl (a.says (d := 58) rfl rfl (m 21 rfl)) fun hgd0 => gv (by simp [go_sem, a.e 2 k6_2]) rfl,
  fun f s W l m n o q a => gdo rfl rfl (a.says (d := 58) rfl rfl (m 21 rfl)) fun hgd0 => gv (by simp [go_sem, a.e 10 k6_10]) rfl,
  fun f s W l m n o q a => gdo rfl rfl (a.says (d := 58) rfl rfl (m 21 rfl)) fun hgd0 => gv (by simp [go_sem, a.e 60 ((m 23 rfl).1 hgd0), IntWalk.i64_in (3 - (i : Int)) (by omega)]) rfl,
  fun f s W l m n o q a => gdo rfl rfl (a.says (d := 58) rfl rfl (m 21 rfl)) fun hgd0 => gv (by simp [go_sem, a.e 11 k6_11]) rfl,
  fun f s W l m n o q a => gdo rfl rfl (a.says (d := 58) rfl rfl (m 21 rfl)) fun hgd0 => gv (by simp [go_sem, a.e 61 ((m 24 rfl).1 hgd0), a.e 62 ((m 25 rfl).1 hgd0), IntWalk.i64_in ((3 - (i : Int)) - (k : Int)) (by omega)]) rfl,
  fun f s W l m n o q a => gdo rfl rfl (a.says (d := 58) rfl rfl (m 21 rfl)) fun hgd0 => by have hik : i ≠ k := (by have h' := hgd0; simp at h'; omega); have hm : (3 - (i : Int)) - (k : Int) = ((3 - i - k : Nat) : Int) := (by omega); have lm : ¬ (3 : Int) ≤ ((3 - i - k : Nat) : Int) := (by omega); exact gv (by simp [go_sem, a.e 59 ((m 22 rfl).1 hgd0), a.e 63 ((m 26 rfl).1 hgd0), hq4, hm, lm]) rfl,
  fun f s W l m n o q a => gdo rfl rfl (a.says (d := 58) rfl rfl (m 21 rfl)) fun hgd0 => by have r := below_trans fB6 l; have u4_ : W.cell? ⟨q4, o4 + (3 - i - k), none⟩ = some (.int .i64 (t (3 - i - k))) := (r.cell (p := ⟨q4, o4 + (3 - i - k), none⟩) hql4).trans (hqc4 (3 - i - k) (by have h' := hgd0; simp at h'; omega)); exact gv (by simp [go_sem, a.e 64 ((m 27 rfl).1 hgd0), u4_]) rfl,
  fun f s W l m n o q a => gdo rfl rfl (a.says (d := 58) rfl rfl (m 21 rfl)) fun hgd0 => gv (by simp [go_sem, a.e 65 ((m 28 rfl).1 hgd0), IntWalk.i64_in (1000 * (t (3 - i - k))) (by have h' := hgd0; simp at h'; have := ht (3 - i - k) (by omega); omega)]) rfl,
  fun f s W l m n o q a => gdo rfl rfl (a.says (d := 58) rfl rfl (m 21 rfl)) fun hgd0 => gv (by simp [go_sem, a.e 9 k6_9]) rfl,
  fun f s W l m n o q a => gdo rfl rfl (a.says (d := 58) rfl rfl (m 21 rfl)) fun hgd0 => gv (by simp [go_sem, a.e 66 ((m 29 rfl).1 hgd0), a.e 67 ((m 30 rfl).1 hgd0)]) rfl,
  fun f s W l m n o q a => opk (c := (((i : Int) != (k : Int)) && (decide ((1000 * (t i)) ≤ (min ((panR b 0 cal)) ((panR b 2 cal)))))) && (decide ((1000 * (t k)) ≤ (min ((panR b 1 cal)) ((panR b 3 cal)))))) rfl rfl (fun hpk => by first | (simp [go_sem, hpk, a.e 58 (m 21 rfl)]; done) | (have hpk' := hpk; simp at hpk'; simp [go_sem, hpk', hpk, a.e 58 (m 21 rfl)])) (fun hpk => by first | (simp [go_sem, hpk, a.e 58 (m 21 rfl), a.e 68 ((m 31 rfl).1 hpk)]; done) | (have hpk' := hpk; simp at hpk'; simp [go_sem, hpk', hpk, a.e 58 (m 21 rfl), a.e 68 ((m 31 rfl).1 hpk)])), trivial⟩ ?_
   intro f7 s7 W7 hB7 g7 hg7
   have fB7 := below_trans fB6 hB7.below
   have z7 := hB7.below.size
   have b7_0 := blk_below b6_0 hB7.below
   refine hK14 _ _ ?_
   have k7_2 := kt hg7 2 k6_2
   have k7_6 := kt hg7 6 k6_6
   have k7_7 := kt hg7 7 k6_7
   have k7_8 := kt hg7 8 k6_8
   have k7_9 := kt hg7 9 k6_9
   have k7_10 := kt hg7 10 k6_10
   have k7_11 := kt hg7 11 k6_11
   have k7_69 := kt hg7 69 (hB7.is 32)
   refine wp_cond_split (t := ((((i : Int) != (k : Int)) && (decide ((1000 * (t i)) ≤ (min ((panR b 0 cal)) ((panR b 2 cal)))))) && (decide ((1000 * (t k)) ≤ (min ((panR b 1 cal)) ((panR b 3 cal)))))) && (decide ((1000 * (t (3 - i - k))) ≤ (heightR b cal)))) ((fr_eval rfl).trans k7_69) (fun hc15 => ?_) (fun hc15 => ?_)
   ·
    have hc15' := hc15; try simp only [decide_eq_true_eq, decide_eq_false_iff_not, Bool.and_eq_true, Bool.or_eq_true, Bool.and_eq_false_iff, Bool.or_eq_false_iff, beq_iff_eq, bne_iff_ne, Bool.not_eq_true', Bool.not_eq_false', ne_eq, bne_eq_false_iff_eq, beq_eq_false_iff_ne] at hc15'
    refine wp_seq_k fun K16 hK16 => ?_
    refine region_dk 1 [(6, 0)] [[]] (rel [is (.bool true)])
     ⟨is_k, trivial⟩
     ⟨fun f s W l m n o q a => opv rfl rfl (by simp [go_sem]) rfl, trivial⟩ ?_
    intro f8 s8 W8 hB8 g8 hg8
    have fB8 := below_trans fB7 hB8.below
    have z8 := hB8.below.size
    have b8_0 := blk_below b7_0 hB8.below
    refine hK16 _ _ ?_
    have k8_2 := kt hg8 2 k7_2
    have k8_7 := kt hg8 7 k7_7
    have k8_8 := kt hg8 8 k7_8
    have k8_9 := kt hg8 9 k7_9
    have k8_10 := kt hg8 10 k7_10
    have k8_11 := kt hg8 11 k7_11
    have k8_6 := kt hg8 6 (hB8.is 0)
    refine wp_ret ?_
    refine inBlock_ret (then_ret (then_ret (inBlock_ret (inBlock_ret (then_ret (then_ret (inBlock_ret (then_ret ?_))))))))
    refine leave_one (N := 70) (v := .bool true) (.inr rfl) Try.results23 rfl k8_6 ?_
    exact ⟨ret_bool (insideS_true (by omega) (by omega) hc15).symm, fB8⟩
   ·
    have hc15' := hc15; try simp only [decide_eq_true_eq, decide_eq_false_iff_not, Bool.and_eq_true, Bool.or_eq_true, Bool.and_eq_false_iff, Bool.or_eq_false_iff, beq_iff_eq, bne_iff_ne, Bool.not_eq_true', Bool.not_eq_false', ne_eq, bne_eq_false_iff_eq, beq_eq_false_iff_ne] at hc15'
    refine wp_skip ?_
    refine inBlock_normal ?_
    refine hK13 _ _ ?_
    refine region_dk 3 [(35, 0), (36, 1), (11, 2)] [[], [0], [0, 1]] (rel [is (.int .i64 ((k : Int))),
   is (.int .i64 ((k : Int) + 1)),
   is (.int .i64 ((k : Int) + 1))])
     ⟨is_k, is_k, is_k, trivial⟩
     ⟨fun f s W l m n o q a => opv rfl rfl (by simp [go_sem, a.e 11 ((o 2 11 rfl rfl).trans k7_11)]) rfl,
  fun f s W l m n o q a => opv rfl rfl (by simp [go_sem, a.e 35 (m 0 rfl), IntWalk.i64_in ((k : Int) + 1) (by omega)]) rfl,
  fun f s W l m n o q a => opv rfl rfl (by simp [go_sem, a.e 36 (m 1 rfl)]) rfl, trivial⟩ ?_
    intro f9 s9 W9 hB9 g9 hg9
    have fB9 := below_trans fB7 hB9.below
    have z9 := hB9.below.size
    have b9_0 := blk_below b7_0 hB9.below
    refine wpOps_end ?_
    have k9_2 := kt hg9 2 k7_2
    have k9_6 := kt hg9 6 k7_6
    have k9_7 := kt hg9 7 k7_7
    have k9_8 := kt hg9 8 k7_8
    have k9_9 := kt hg9 9 k7_9
    have k9_10 := kt hg9 10 k7_10
    have k9_11 := kt hg9 11 (hB9.is 2)
    refine then_normal ?_
    exact ⟨_, by omega, g9, rfl, k + 1, rfl, k9_2, k9_6, k9_7, k9_8, k9_9, k9_10, k9_11.trans (by go_num), fB9, (by omega), b9_0, (by omega), (fun i' k' hi' hk' h => by rcases (by omega : (i' < i ∨ (i' = i ∧ k' < k)) ∨ (i' = i ∧ k' = k)) with h | ⟨rfl, rfl⟩; exact lp1 i' k' hi' hk' h; exact hc15)⟩
  ·
   have hc12' := hc12; try simp only [decide_eq_true_eq, decide_eq_false_iff_not, Bool.and_eq_true, Bool.or_eq_true, Bool.and_eq_false_iff, Bool.or_eq_false_iff, beq_iff_eq, bne_iff_ne, Bool.not_eq_true', Bool.not_eq_false', ne_eq, bne_eq_false_iff_eq, beq_eq_false_iff_ne] at hc12'
   refine wp_exit ?_
   refine then_exit ?_
   refine then_exit ?_
   refine inBlock_at ?_
   refine inBlock_normal ?_
   refine hK8 _ _ ?_
   refine region_dk 3 [(31, 0), (32, 1), (10, 2)] [[], [0], [0, 1]] (rel [is (.int .i64 ((i : Int))),
   is (.int .i64 ((i : Int) + 1)),
   is (.int .i64 ((i : Int) + 1))])
    ⟨is_k, is_k, is_k, trivial⟩
    ⟨fun f s W l m n o q a => opv rfl rfl (by simp [go_sem, a.e 10 ((o 2 10 rfl rfl).trans k6_10)]) rfl,
  fun f s W l m n o q a => opv rfl rfl (by simp [go_sem, a.e 31 (m 0 rfl), IntWalk.i64_in ((i : Int) + 1) (by omega)]) rfl,
  fun f s W l m n o q a => opv rfl rfl (by simp [go_sem, a.e 32 (m 1 rfl)]) rfl, trivial⟩ ?_
   intro f10 s10 W10 hB10 g10 hg10
   have fB10 := below_trans fB6 hB10.below
   have z10 := hB10.below.size
   have b10_0 := blk_below b6_0 hB10.below
   refine wpOps_end ?_
   have k10_2 := kt hg10 2 k6_2
   have k10_6 := kt hg10 6 k6_6
   have k10_7 := kt hg10 7 k6_7
   have k10_8 := kt hg10 8 k6_8
   have k10_9 := kt hg10 9 k6_9
   have k10_10 := kt hg10 10 (hB10.is 2)
   refine then_normal ?_
   exact ⟨_, by omega, g10, rfl, i + 1, rfl, k10_2, k10_6, k10_7, k10_8, k10_9, k10_10.trans (by go_num), fB10, (by omega), b10_0, (by omega), (fun i' k' hi' hk' h => lp1 i' k' hi' hk' (by omega))⟩
 ·
  have hc7' := hc7; try simp only [decide_eq_true_eq, decide_eq_false_iff_not, Bool.and_eq_true, Bool.or_eq_true, Bool.and_eq_false_iff, Bool.or_eq_false_iff, beq_iff_eq, bne_iff_ne, Bool.not_eq_true', Bool.not_eq_false', ne_eq, bne_eq_false_iff_eq, beq_eq_false_iff_ne] at hc7'
  refine wp_exit ?_
  refine then_exit ?_
  refine then_exit ?_
  refine inBlock_at ?_
  refine hK3 _ _ ?_
  refine wp_seq_k fun K17 hK17 => ?_
  refine region_dk 1 [(6, 0)] [[]] (rel [is (.bool false)])
   ⟨is_k, trivial⟩
   ⟨fun f s W l m n o q a => opv rfl rfl (by simp [go_sem]) rfl, trivial⟩ ?_
  intro f11 s11 W11 hB11 g11 hg11
  have fB11 := below_trans fB4 hB11.below
  have z11 := hB11.below.size
  have b11_0 := blk_below b4_0 hB11.below
  refine hK17 _ _ ?_
  have k11_6 := kt hg11 6 (hB11.is 0)
  refine wp_ret ?_
  refine leave_one (N := 70) (v := .bool false) (.inr rfl) Try.results23 rfl k11_6 ?_
  exact ⟨ret_bool (insideS_false fun i' k' hi' hk' => jo1 i' k' hi' hk' (by omega)).symm, fB11⟩
theorem inside_any (a1 a2 a3 : Option Addr) (c1 c2 c3 : Nat) (b : Bl) (cal : Int) (a4 : Option Addr) (c4 : Nat) (x y z : Int) (w : World) (h1 : Ii w a1 b.panels.length c1 b.panels) (h2 : Ii w a2 b.top.length c2 b.top) (h3 : Ii w a3 b.bottom.length c3 b.bottom) (h4 : Ii w a4 3 c4 [x, y, z]) (gx : 0 ≤ x ∧ x ≤ 3000) (gy : 0 ≤ y ∧ y ≤ 3000) (gz : 0 ≤ z ∧ z ≤ 3000) (gc : 0 ≤ cal ∧ cal ≤ 100000) (gp0 : 1 ≤ b.panels.getD 0 0 ∧ b.panels.getD 0 0 ≤ 3000) (gp1 : 1 ≤ b.panels.getD 1 0 ∧ b.panels.getD 1 0 ≤ 3000) (gp2 : 1 ≤ b.panels.getD 2 0 ∧ b.panels.getD 2 0 ≤ 3000) (gp3 : 1 ≤ b.panels.getD 3 0 ∧ b.panels.getD 3 0 ≤ 3000) (gh : 1 ≤ b.height ∧ b.height ≤ 3000) (hl1 : b.panels.length = 4) :
    Calls Try.prog 23 #[.agg #[.int .i64 b.tab, .slice (a1) (b.panels.length) (c1), .int .i64 b.height, .slice (a2) (b.top.length) (c2), .slice (a3) (b.bottom.length) (c3), .int .i64 b.slot, .bool b.isOpen], .int .i64 cal, .slice a4 3 c4] w (fun e w' => e = .returned (.bool (insideB b cal x y z)) ∧ Below w.heap.size w w') := by
  obtain ⟨q4, o4, hq4, hql4, hqc4⟩ := h4.at (by simp)
  rw [← insideS_eq]
  exact insideS_any a1 a2 a3 a4 c1 c2 c3 b cal q4 o4 c4 _ w h1 h2 h3 hq4 hql4 hqc4 (fun j hj => by match j, hj with | 0, _ => exact gx | 1, _ => exact gy | 2, _ => exact gz) gc gp0 gp1 gp2 gp3 gh hl1
end Go.Proofs.Ythnediamopehfaa
