/- Part of the proof: what the claim leans on. -/
import Derived.Test.YthnediamopehfaaZSZX
set_option linter.unusedSimpArgs false
set_option linter.unusedVariables false
namespace Go.Proofs.Ythnediamopehfaa
open Go.RowKit
set_option maxRecDepth 100000 in
set_option maxHeartbeats 400000 in
theorem sizes_large (a1 a2 a3 : Option Addr) (c1 c2 c3 : Nat) (b : Bl) (w : World) (h1 : Ii w a1 b.panels.length c1 b.panels) (h2 : Ii w a2 b.top.length c2 b.top) (h3 : Ii w a3 b.bottom.length c3 b.bottom) (hl : largeB b = true) :
  Calls Try.prog 3 #[.agg #[.int .i64 b.tab, .slice (a1) (b.panels.length) (c1), .int .i64 b.height, .slice (a2) (b.top.length) (c2), .slice (a3) (b.bottom.length) (c3), .int .i64 b.slot, .bool b.isOpen]] w (fun e w' => e = .returned (.bool true) ∧ Below w.heap.size w w') := by
 refine calls_fr Try.func3 Try.ntmps3 rfl rfl fun g hg => ?_
 have k0 : g 0 = .agg #[.int .i64 b.tab, .slice (a1) (b.panels.length) (c1), .int .i64 b.height, .slice (a2) (b.top.length) (c2), .slice (a3) (b.bottom.length) (c3), .int .i64 b.slot, .bool b.isOpen] := hg 0
 clear hg
 have fB0 : Below w.heap.size w w := Below.refl _ _
 refine wp_seq_k fun K1 hK1 => ?_
 refine region_dk 2 [(1, 0), (2, 1)] [[], []] (rel [bx 0 #[.int .i64 b.tab, .slice (a1) (b.panels.length) (c1), .int .i64 b.height, .slice (a2) (b.top.length) (c2), .slice (a3) (b.bottom.length) (c3), .int .i64 b.slot, .bool b.isOpen] 24,
   is (.bool false)])
  ⟨bx_k, is_k, trivial⟩
  ⟨fun f s W c d h i j a => opb rfl rfl (by simp [go_sem, a.e 0 k0]),
  fun f s W c d h i j a => opv rfl rfl (by simp [go_sem]) rfl, trivial⟩ ?_
 intro f1 s1 W1 hB1 g1 hg1
 have fB1 := below_trans fB0 hB1.below
 have z1 := hB1.below.size
 obtain ⟨r1_0, br1_0⟩ := hB1.is 0
 have lr1_0 := hB1.lr 0 br1_0
 refine hK1 _ _ ?_
 have k1_1 := kt hg1 1 r1_0
 have k1_2 := kt hg1 2 (hB1.is 1)
 refine wp_seq_k fun K2 hK2 => ?_
 refine wp_seq_k fun K3 hK3 => ?_
 refine region_dk 2 [(18, 0), (19, 1)] [[], [0]] (rel [is (.agg #[.int .i64 b.tab, .slice (a1) (b.panels.length) (c1), .int .i64 b.height, .slice (a2) (b.top.length) (c2), .slice (a3) (b.bottom.length) (c3), .int .i64 b.slot, .bool b.isOpen]),
   is (.bool (largeB b))])
  ⟨is_k, is_k, trivial⟩
  ⟨fun f s W c d h i j a => opv rfl rfl (by simp [go_sem, a.e 1 k1_1, Joins.cell_of_block (blk_below br1_0 c) 0, Joins.cell_of_block (blk_below br1_0 c) 1, Joins.cell_of_block (blk_below br1_0 c) 2, Joins.cell_of_block (blk_below br1_0 c) 3, Joins.cell_of_block (blk_below br1_0 c) 4, Joins.cell_of_block (blk_below br1_0 c) 5, Joins.cell_of_block (blk_below br1_0 c) 6]) rfl,
  fun f s W c d h i j a => by have k := below_trans fB1 c; exact opc rfl rfl (by simp [go_sem, a.e 18 (d 0 rfl)]) (large_any a1 a2 a3 c1 c2 c3 b W (h1.below k (Nat.le_refl _)) (h2.below k (Nat.le_refl _)) (h3.below k (Nat.le_refl _))), trivial⟩ ?_
 intro f2 s2 W2 hB2 g2 hg2
 have fB2 := below_trans fB1 hB2.below
 have z2 := hB2.below.size
 have b2_0 := blk_below br1_0 hB2.below
 refine hK3 _ _ ?_
 have k2_1 := kt hg2 1 k1_1
 have k2_2 := kt hg2 2 k1_2
 have k2_19 := kt hg2 19 (hB2.is 1)
 have hc4 : (fr 153 g2).eval (.tmp 19) = .bool true := ((fr_eval rfl).trans k2_19).trans (by rw [hl])
 refine wp_cond_true (hc4) ?_
 refine wp_seq_k fun K5 hK5 => ?_
 refine region_dk 2 [(20, 0), (2, 1)] [[], [0]] (rel [is (.bool true),
   is (.bool true)])
  ⟨is_k, is_k, trivial⟩
  ⟨fun f s W c d h i j a => opc rfl rfl (by simp [go_sem]) (known_any W),
  fun f s W c d h i j a => opv rfl rfl (by simp [go_sem, a.e 20 (d 0 rfl)]) rfl, trivial⟩ ?_
 intro f3 s3 W3 hB3 g3 hg3
 have fB3 := below_trans fB2 hB3.below
 have z3 := hB3.below.size
 have b3_0 := blk_below b2_0 hB3.below
 refine hK5 _ _ ?_
 have k3_1 := kt hg3 1 k2_1
 have k3_2 := kt hg3 2 (hB3.is 1)
 refine wp_ret ?_
 refine then_ret ?_
 refine leave_one (N := 153) (v := .bool true) (.inr rfl) Try.results3 rfl k3_2 ?_
 exact ⟨rfl, fB3⟩
set_option maxRecDepth 100000 in
set_option maxHeartbeats 2000000 in
theorem sizes_bad (a1 a2 a3 : Option Addr) (c1 c2 c3 : Nat) (b : Bl) (x : Int) (w : World) (h1 : Ii w a1 b.panels.length c1 b.panels) (h2 : Ii w a2 b.top.length c2 b.top) (h3 : Ii w a3 b.bottom.length c3 b.bottom) (hl : largeB b = false) (hx : checkErr b = x) (hn : (x != 0) = true) :
  Calls Try.prog 3 #[.agg #[.int .i64 b.tab, .slice (a1) (b.panels.length) (c1), .int .i64 b.height, .slice (a2) (b.top.length) (c2), .slice (a3) (b.bottom.length) (c3), .int .i64 b.slot, .bool b.isOpen]] w (fun e w' => e = .returned (.bool true) ∧ Below w.heap.size w w') := by
 have hm1 := h1.len_le
 have hm2 := h2.len_le
 have hm3 := h3.len_le
 obtain ⟨m1, m2, m3⟩ := large_false hl
 have n1 : b.panels.length ≤ 1000 := by omega
 have n2 : b.top.length ≤ 1000 := by omega
 have n3 : b.bottom.length ≤ 1000 := by omega
 have hx0 : ¬ checkErr b = 0 := by rw [hx]; exact bne_iff_ne.1 hn
 refine calls_fr Try.func3 Try.ntmps3 rfl rfl fun g hg => ?_
 have k0 : g 0 = .agg #[.int .i64 b.tab, .slice (a1) (b.panels.length) (c1), .int .i64 b.height, .slice (a2) (b.top.length) (c2), .slice (a3) (b.bottom.length) (c3), .int .i64 b.slot, .bool b.isOpen] := hg 0
 clear hg
 have fB0 : Below w.heap.size w w := Below.refl _ _
 refine wp_seq_k fun K1 hK1 => ?_
 refine region_dk 2 [(1, 0), (2, 1)] [[], []] (rel [bx 0 #[.int .i64 b.tab, .slice (a1) (b.panels.length) (c1), .int .i64 b.height, .slice (a2) (b.top.length) (c2), .slice (a3) (b.bottom.length) (c3), .int .i64 b.slot, .bool b.isOpen] 24,
   is (.bool false)])
  ⟨bx_k, is_k, trivial⟩
  ⟨fun f s W j l m p q i => opb rfl rfl (by simp [go_sem, i.e 0 k0]),
  fun f s W j l m p q i => opv rfl rfl (by simp [go_sem]) rfl, trivial⟩ ?_
 intro f1 s1 W1 hB1 g1 hg1
 have fB1 := below_trans fB0 hB1.below
 have z1 := hB1.below.size
 obtain ⟨r1_0, br1_0⟩ := hB1.is 0
 have lr1_0 := hB1.lr 0 br1_0
 refine hK1 _ _ ?_
 have k1_1 := kt hg1 1 r1_0
 have k1_2 := kt hg1 2 (hB1.is 1)
 refine wp_seq_k fun K2 hK2 => ?_
 refine wp_seq_k fun K3 hK3 => ?_
 refine region_dk 2 [(18, 0), (19, 1)] [[], [0]] (rel [is (.agg #[.int .i64 b.tab, .slice (a1) (b.panels.length) (c1), .int .i64 b.height, .slice (a2) (b.top.length) (c2), .slice (a3) (b.bottom.length) (c3), .int .i64 b.slot, .bool b.isOpen]),
   is (.bool (largeB b))])
  ⟨is_k, is_k, trivial⟩
  ⟨fun f s W j l m p q i => opv rfl rfl (by simp [go_sem, i.e 1 k1_1, Joins.cell_of_block (blk_below br1_0 j) 0, Joins.cell_of_block (blk_below br1_0 j) 1, Joins.cell_of_block (blk_below br1_0 j) 2, Joins.cell_of_block (blk_below br1_0 j) 3, Joins.cell_of_block (blk_below br1_0 j) 4, Joins.cell_of_block (blk_below br1_0 j) 5, Joins.cell_of_block (blk_below br1_0 j) 6]) rfl,
  fun f s W j l m p q i => by have r := below_trans fB1 j; exact opc rfl rfl (by simp [go_sem, i.e 18 (l 0 rfl)]) (large_any a1 a2 a3 c1 c2 c3 b W (h1.below r (Nat.le_refl _)) (h2.below r (Nat.le_refl _)) (h3.below r (Nat.le_refl _))), trivial⟩ ?_
 intro f2 s2 W2 hB2 g2 hg2
 have fB2 := below_trans fB1 hB2.below
 have z2 := hB2.below.size
 have b2_0 := blk_below br1_0 hB2.below
 refine hK3 _ _ ?_
 have k2_1 := kt hg2 1 k1_1
 have k2_2 := kt hg2 2 k1_2
 have k2_19 := kt hg2 19 (hB2.is 1)
 have hc4 : (fr 153 g2).eval (.tmp 19) = .bool false := ((fr_eval rfl).trans k2_19).trans (by rw [hl])
 refine wp_cond_false (hc4) ?_
 refine wp_skip ?_
 refine hK2 _ _ ?_
 refine wp_seq_k fun K5 hK5 => ?_
 refine region_dk 3 [(21, 0), (22, 1), (3, 2)] [[], [0], [], [0, 1, 2]] (rel [is (.agg #[.int .i64 b.tab, .slice (a1) (b.panels.length) (c1), .int .i64 b.height, .slice (a2) (b.top.length) (c2), .slice (a3) (b.bottom.length) (c3), .int .i64 b.slot, .bool b.isOpen]),
   fun v s W => NwBlk (s 1) (b) v W,
   bx 2 #[.int .i64 0, .slice (none) (0) (0), .int .i64 0, .slice (none) (0) (0), .slice (none) (0) (0), .int .i64 0, .bool false] 24])
  ⟨is_k, ⟨fun v k W W' hb h => h.below hb, fun v s s' W e h => by have h' : NwBlk (s 1) (b) v W := h; show NwBlk (s' 1) (b) v W; rw [← e 1 (by simp)]; exact h'⟩, bx_k, trivial⟩
  ⟨fun f s W j l m p q i => opv rfl rfl (by simp [go_sem, i.e 1 k2_1, Joins.cell_of_block (blk_below b2_0 j) 0, Joins.cell_of_block (blk_below b2_0 j) 1, Joins.cell_of_block (blk_below b2_0 j) 2, Joins.cell_of_block (blk_below b2_0 j) 3, Joins.cell_of_block (blk_below b2_0 j) 4, Joins.cell_of_block (blk_below b2_0 j) 5, Joins.cell_of_block (blk_below b2_0 j) 6]) rfl,
  fun f s W j l m p q i => by have r := below_trans fB2 j; exact opDo_call rfl rfl (by simp [go_sem, i.e 21 (l 0 rfl)]) (own_any a1 a2 a3 c1 c2 c3 b W (h1.below r (Nat.le_refl _)) (h2.below r (Nat.le_refl _)) (h3.below r (Nat.le_refl _)) n1 n2 n3) (fun e W' h => by obtain ⟨v, e1, h1, h2⟩ := h; exact ⟨v, e1, h2, (show NwBlk (upd s 1 W.heap.size 1) (b) v W' from by rw [upd_at]; exact h1)⟩),
  fun f s W j l m p q i => opb rfl rfl (by simp [go_sem]), trivial⟩ ?_
 intro f3 s3 W3 hB3 g3 hg3
 have fB3 := below_trans fB2 hB3.below
 have z3 := hB3.below.size
 have b3_0 := blk_below b2_0 hB3.below
 have la3_1_1 := hB3.from' 1 (by decide)
 obtain ⟨g1', c4', g2', c5', g3', c6', r3_1, ⟨q7', q9', q8'⟩, ⟨q10', q12', q11'⟩, ⟨q13', q15', q14'⟩⟩ := hB3.is 1
 obtain ⟨r3_2, br3_2⟩ := hB3.is 2
 have lr3_2 := hB3.lr 2 br3_2
 have la3_1 := hB3.from' 1 (by decide)
 have of3_1_2_0 := hB3.off 1 2 (by decide) (by decide) (by decide) q9' (fun W h => (NwBlk.lt h r3_1).1) (fun _ _ _ h => lt_of_blk h.2)
 have of3_1_2_1 := hB3.off 1 2 (by decide) (by decide) (by decide) q12' (fun W h => (NwBlk.lt h r3_1).2.1) (fun _ _ _ h => lt_of_blk h.2)
 have of3_1_2_2 := hB3.off 1 2 (by decide) (by decide) (by decide) q15' (fun W h => (NwBlk.lt h r3_1).2.2) (fun _ _ _ h => lt_of_blk h.2)
 have k3_1 := kt hg3 1 k2_1
 have k3_2 := kt hg3 2 k2_2
 have k3_22 := kt hg3 22 r3_1
 have k3_3 := kt hg3 3 r3_2
 obtain ⟨W4, hW4⟩ : ∃ W', W' = W3.setRow (s3 2) #[.int .i64 b.tab, .slice (some ⟨g1', 0, none⟩) (b.panels.length) (c4'), .int .i64 b.height, .slice (some ⟨g2', 0, none⟩) (b.top.length) (c5'), .slice (some ⟨g3', 0, none⟩) (b.bottom.length) (c6'), .int .i64 b.slot, .bool b.isOpen] := ⟨_, rfl⟩
 refine tail_skip (o := _) rfl ⟨rfl, rfl⟩ (run_seg hW4 (fr_ev k3_3) (fr_ev k3_22) br3_2 rfl rfl rfl rfl) ?_
 obtain ⟨fB4, nb4, ot4, z4⟩ := seg_facts hW4 fB3 br3_2 (by omega)
 clear hW4
 have b4_0 := ot4 _ _ (by omega) b3_0
 have q16' := (q7'.other ot4 q8' (by omega) z4)
 have q17' := Nat.lt_of_lt_of_le q8' z4
 have q18' := (q10'.other ot4 q11' (by omega) z4)
 have q19' := Nat.lt_of_lt_of_le q11' z4
 have q20' := (q13'.other ot4 q14' (by omega) z4)
 have q21' := Nat.lt_of_lt_of_le q14' z4
 refine wpOps_end ?_
 refine hK5 _ _ ?_
 refine wp_seq_k fun K6 hK6 => ?_
 refine region_dk 3 [(23, 0), (24, 1), (4, 2)] [[], [0], [0, 1]] (rel [is (.agg #[.int .i64 b.tab, .slice (some ⟨g1', 0, none⟩) (b.panels.length) (c4'), .int .i64 b.height, .slice (some ⟨g2', 0, none⟩) (b.top.length) (c5'), .slice (some ⟨g3', 0, none⟩) (b.bottom.length) (c6'), .int .i64 b.slot, .bool b.isOpen]),
   is (.int .i64 x),
   is (.int .i64 x)])
  ⟨is_k, is_k, is_k, trivial⟩
  ⟨fun f s W j l m p q i => opv rfl rfl (by simp [go_sem, i.e 3 k3_3, Joins.cell_of_block (blk_below nb4 j) 0, Joins.cell_of_block (blk_below nb4 j) 1, Joins.cell_of_block (blk_below nb4 j) 2, Joins.cell_of_block (blk_below nb4 j) 3, Joins.cell_of_block (blk_below nb4 j) 4, Joins.cell_of_block (blk_below nb4 j) 5, Joins.cell_of_block (blk_below nb4 j) 6]) rfl,
  fun f s W j l m p q i => opDo_call (args := #[.agg #[.int .i64 b.tab, .slice (some ⟨g1', 0, none⟩) (b.panels.length) (c4'), .int .i64 b.height, .slice (some ⟨g2', 0, none⟩) (b.top.length) (c5'), .slice (some ⟨g3', 0, none⟩) (b.bottom.length) (c6'), .int .i64 b.slot, .bool b.isOpen]]) rfl rfl (by simp [go_sem, i.e 23 (l 0 rfl)]) (check_any _ b W ⟨_, _, _, _, _, _, _, _, _, rfl, ((q16'.below j (Nat.le_refl _))), ((q18'.below j (Nat.le_refl _))), ((q20'.below j (Nat.le_refl _)))⟩) ((fun e W' h => by have h1 := h.1; rw [hx] at h1; exact ⟨_, h1, h.2, rfl⟩)),
  fun f s W j l m p q i => opv rfl rfl (by simp [go_sem, i.e 24 (l 1 rfl)]) rfl, trivial⟩ ?_
 intro f5 s5 W5 hB5 g5 hg5
 have fB5 := below_trans fB4 hB5.below
 have z5 := hB5.below.size
 have b5_0 := blk_below b4_0 hB5.below
 have b5_1 := blk_below nb4 hB5.below
 have q22' := (q16'.below hB5.below (Nat.le_refl _))
 have q23' := (Nat.lt_of_lt_of_le q17' (Below.size hB5.below))
 have q24' := (q18'.below hB5.below (Nat.le_refl _))
 have q25' := (Nat.lt_of_lt_of_le q19' (Below.size hB5.below))
 have q26' := (q20'.below hB5.below (Nat.le_refl _))
 have q27' := (Nat.lt_of_lt_of_le q21' (Below.size hB5.below))
 refine hK6 _ _ ?_
 have k5_1 := kt hg5 1 k3_1
 have k5_2 := kt hg5 2 k3_2
 have k5_3 := kt hg5 3 k3_3
 have k5_4 := kt hg5 4 (hB5.is 2)
 refine wp_seq_k fun K7 hK7 => ?_
 refine region_dk 11 [(26, 0), (27, 1), (25, 2), (28, 3), (29, 4), (30, 5), (31, 6), (5, 7), (6, 8), (7, 9), (8, 10)] [[], [0], [0, 1], [0, 1, 2], [0, 1, 2], [0, 1, 2], [0, 1, 2], [0, 1, 2, 3], [0, 1, 2, 3, 4, 7], [0, 1, 2, 3, 4, 5, 7, 8], [0, 1, 2, 3, 4, 5, 6, 7, 8, 9]] (rel [is (.agg #[.int .i64 b.tab, .slice (some ⟨g1', 0, none⟩) (b.panels.length) (c4'), .int .i64 b.height, .slice (some ⟨g2', 0, none⟩) (b.top.length) (c5'), .slice (some ⟨g3', 0, none⟩) (b.bottom.length) (c6'), .int .i64 b.slot, .bool b.isOpen]),
   is (.tuple #[.int .i64 0, .int .i64 0, .int .i64 0, .int .i64 x]),
   is (.tuple #[.int .i64 0, .int .i64 0, .int .i64 0, .int .i64 x]),
   is (.int .i64 0),
   is (.int .i64 0),
   is (.int .i64 0),
   is (.int .i64 x),
   is (.int .i64 0),
   is (.int .i64 0),
   is (.int .i64 0),
   is (.int .i64 x)])
  ⟨is_k, is_k, is_k, is_k, is_k, is_k, is_k, is_k, is_k, is_k, is_k, trivial⟩
  ⟨fun f s W j l m p q i => opv rfl rfl (by simp [go_sem, i.e 3 k5_3, Joins.cell_of_block (blk_below b5_1 j) 0, Joins.cell_of_block (blk_below b5_1 j) 1, Joins.cell_of_block (blk_below b5_1 j) 2, Joins.cell_of_block (blk_below b5_1 j) 3, Joins.cell_of_block (blk_below b5_1 j) 4, Joins.cell_of_block (blk_below b5_1 j) 5, Joins.cell_of_block (blk_below b5_1 j) 6]) rfl,
  fun f s W j l m p q i => opDo_call (args := #[.agg #[.int .i64 b.tab, .slice (some ⟨g1', 0, none⟩) (b.panels.length) (c4'), .int .i64 b.height, .slice (some ⟨g2', 0, none⟩) (b.top.length) (c5'), .slice (some ⟨g3', 0, none⟩) (b.bottom.length) (c6'), .int .i64 b.slot, .bool b.isOpen]]) rfl rfl (by simp [go_sem, i.e 26 (l 0 rfl)]) (size_any _ b W ⟨_, _, _, _, _, _, _, _, _, rfl, ((q22'.below j (Nat.le_refl _))), ((q24'.below j (Nat.le_refl _))), ((q26'.below j (Nat.le_refl _)))⟩) ((fun e W' h => ⟨_, h.1, h.2, by rw [if_neg hx0, hx]; rfl⟩)),
  fun f s W j l m p q i => opv rfl rfl (by simp [go_sem, i.e 27 (l 1 rfl)]) rfl,
  fun f s W j l m p q i => opv rfl rfl (by simp [go_sem, i.e 25 (l 2 rfl)]) rfl,
  fun f s W j l m p q i => opv rfl rfl (by simp [go_sem, i.e 25 (l 2 rfl)]) rfl,
  fun f s W j l m p q i => opv rfl rfl (by simp [go_sem, i.e 25 (l 2 rfl)]) rfl,
  fun f s W j l m p q i => opv rfl rfl (by simp [go_sem, i.e 25 (l 2 rfl)]) rfl,
  fun f s W j l m p q i => opv rfl rfl (by simp [go_sem, i.e 28 (l 3 rfl)]) rfl,
  fun f s W j l m p q i => opv rfl rfl (by simp [go_sem, i.e 29 (l 4 rfl)]) rfl,
  fun f s W j l m p q i => opv rfl rfl (by simp [go_sem, i.e 30 (l 5 rfl)]) rfl,
  fun f s W j l m p q i => opv rfl rfl (by simp [go_sem, i.e 31 (l 6 rfl)]) rfl, trivial⟩ ?_
 intro f6 s6 W6 hB6 g6 hg6
 have fB6 := below_trans fB5 hB6.below
 have z6 := hB6.below.size
 have b6_0 := blk_below b5_0 hB6.below
 have b6_1 := blk_below b5_1 hB6.below
 have q28' := (q22'.below hB6.below (Nat.le_refl _))
 have q29' := (Nat.lt_of_lt_of_le q23' (Below.size hB6.below))
 have q30' := (q24'.below hB6.below (Nat.le_refl _))
 have q31' := (Nat.lt_of_lt_of_le q25' (Below.size hB6.below))
 have q32' := (q26'.below hB6.below (Nat.le_refl _))
 have q33' := (Nat.lt_of_lt_of_le q27' (Below.size hB6.below))
 refine hK7 _ _ ?_
 have k6_1 := kt hg6 1 k5_1
 have k6_2 := kt hg6 2 k5_2
 have k6_3 := kt hg6 3 k5_3
 have k6_4 := kt hg6 4 k5_4
 have k6_5 := kt hg6 5 (hB6.is 7)
 have k6_6 := kt hg6 6 (hB6.is 8)
 have k6_7 := kt hg6 7 (hB6.is 9)
 have k6_8 := kt hg6 8 (hB6.is 10)
 refine wp_seq_k fun K8 hK8 => ?_
 refine region_dk 9 [(33, 0), (34, 1), (32, 2), (35, 3), (36, 4), (37, 5), (9, 6), (10, 7), (11, 8)] [[], [0], [0, 1], [0, 1, 2], [0, 1, 2], [0, 1, 2], [0, 1, 2, 3], [0, 1, 2, 3, 4, 6], [0, 1, 2, 3, 4, 5, 6, 7]] (rel [is (.agg #[.int .i64 b.tab, .slice (some ⟨g1', 0, none⟩) (b.panels.length) (c4'), .int .i64 b.height, .slice (some ⟨g2', 0, none⟩) (b.top.length) (c5'), .slice (some ⟨g3', 0, none⟩) (b.bottom.length) (c6'), .int .i64 b.slot, .bool b.isOpen]),
   ab fun v W => ∃ x0 x1, v = .tuple #[x0, x1, .int .i64 x] ∧ IsNil x0 W ∧ IsNil x1 W,
   ab fun v W => ∃ x0 x1, v = .tuple #[x0, x1, .int .i64 x] ∧ IsNil x0 W ∧ IsNil x1 W,
   ab fun v W => IsNil v W,
   ab fun v W => IsNil v W,
   is (.int .i64 x),
   ab fun v W => IsNil v W,
   ab fun v W => IsNil v W,
   is (.int .i64 x)])
  ⟨is_k, ab_k fun v W W' hb ⟨x0, x1, e, h0, h1⟩ => ⟨x0, x1, e, h0, h1⟩, ab_k fun v W W' hb ⟨x0, x1, e, h0, h1⟩ => ⟨x0, x1, e, h0, h1⟩, ab_k fun v W W' hb h => h, ab_k fun v W W' hb h => h, is_k, ab_k fun v W W' hb h => h, ab_k fun v W W' hb h => h, is_k, trivial⟩
  ⟨fun f s W j l m p q i => opv rfl rfl (by simp [go_sem, i.e 3 k6_3, Joins.cell_of_block (blk_below b6_1 j) 0, Joins.cell_of_block (blk_below b6_1 j) 1, Joins.cell_of_block (blk_below b6_1 j) 2, Joins.cell_of_block (blk_below b6_1 j) 3, Joins.cell_of_block (blk_below b6_1 j) 4, Joins.cell_of_block (blk_below b6_1 j) 5, Joins.cell_of_block (blk_below b6_1 j) 6]) rfl,
  fun f s W j l m p q i => opDo_call (args := #[.agg #[.int .i64 b.tab, .slice (some ⟨g1', 0, none⟩) (b.panels.length) (c4'), .int .i64 b.height, .slice (some ⟨g2', 0, none⟩) (b.top.length) (c5'), .slice (some ⟨g3', 0, none⟩) (b.bottom.length) (c6'), .int .i64 b.slot, .bool b.isOpen]]) rfl rfl (by simp [go_sem, i.e 33 (l 0 rfl)]) (scores_any _ b W ⟨_, _, _, _, _, _, _, _, _, rfl, ((q28'.below j (Nat.le_refl _))), ((q30'.below j (Nat.le_refl _))), ((q32'.below j (Nat.le_refl _)))⟩) ((fun e W' h => by obtain ⟨a, n, c, a', n', c', e1, h1, h2, h3⟩ := h; rw [hx] at e1; exact ⟨_, e1, h3, _, _, rfl, isNil_of h1 (if_neg hx0), isNil_of h2 (if_neg hx0)⟩)),
  fun f s W j l m p q i => opv (v := (f 1)) rfl rfl (by simp [go_sem, (i.at' 34 rfl : q.tmps[34]?.getD undef = f 1)] <;> rfl) (l 1 rfl),
  fun f s W j l m p q i => by obtain ⟨x2_0, x2_1, d2, p2_0, p2_1⟩ := (l 2 rfl); exact opv (v := x2_0) rfl rfl (by simp [go_sem, i.e 32 d2]) p2_0,
  fun f s W j l m p q i => by obtain ⟨x2_0, x2_1, d2, p2_0, p2_1⟩ := (l 2 rfl); exact opv (v := x2_1) rfl rfl (by simp [go_sem, i.e 32 d2]) p2_1,
  fun f s W j l m p q i => by obtain ⟨x2_0, x2_1, d2, p2_0, p2_1⟩ := (l 2 rfl); exact opv rfl rfl (by simp [go_sem, i.e 32 d2]) rfl,
  fun f s W j l m p q i => opv (v := (f 3)) rfl rfl (by simp [go_sem, (i.at' 35 rfl : q.tmps[35]?.getD undef = f 3)] <;> rfl) (l 3 rfl),
  fun f s W j l m p q i => opv (v := (f 4)) rfl rfl (by simp [go_sem, (i.at' 36 rfl : q.tmps[36]?.getD undef = f 4)] <;> rfl) (l 4 rfl),
  fun f s W j l m p q i => opv rfl rfl (by simp [go_sem, i.e 37 (l 5 rfl)]) rfl, trivial⟩ ?_
 intro f7 s7 W7 hB7 g7 hg7
 have fB7 := below_trans fB6 hB7.below
 have z7 := hB7.below.size
 have b7_0 := blk_below b6_0 hB7.below
 have b7_1 := blk_below b6_1 hB7.below
 have q38' := (q28'.below hB7.below (Nat.le_refl _))
 have q39' := (Nat.lt_of_lt_of_le q29' (Below.size hB7.below))
 have q40' := (q30'.below hB7.below (Nat.le_refl _))
 have q41' := (Nat.lt_of_lt_of_le q31' (Below.size hB7.below))
 have q42' := (q32'.below hB7.below (Nat.le_refl _))
 have q43' := (Nat.lt_of_lt_of_le q33' (Below.size hB7.below))
 obtain ⟨a44', c45', r7_6⟩ := hB7.is 6
 obtain ⟨a46', c47', r7_7⟩ := hB7.is 7
 refine hK8 _ _ ?_
 have k7_1 := kt hg7 1 k6_1
 have k7_2 := kt hg7 2 k6_2
 have k7_3 := kt hg7 3 k6_3
 have k7_4 := kt hg7 4 k6_4
 have k7_5 := kt hg7 5 k6_5
 have k7_6 := kt hg7 6 k6_6
 have k7_7 := kt hg7 7 k6_7
 have k7_8 := kt hg7 8 k6_8
 have k7_9 := kt hg7 9 r7_6
 have k7_10 := kt hg7 10 r7_7
 have k7_11 := kt hg7 11 (hB7.is 8)
 refine wp_seq_k fun K9 hK9 => ?_
 refine wp_seq_k fun K10 hK10 => ?_
 refine region_dk 20 [(38, 0), (39, 1), (40, 2), (41, 3), (42, 4), (43, 5), (44, 6), (45, 7), (46, 8), (47, 9), (48, 10), (49, 11), (50, 12), (51, 13), (52, 14), (53, 15), (54, 16), (55, 17), (56, 18), (57, 19)] [[], [], [0, 1], [0, 1, 2], [0, 1, 2, 3], [0, 1, 2, 3, 4], [0, 1, 2, 3, 4], [0, 1, 2, 3, 4, 6], [0, 1, 2, 3, 4, 5, 6, 7], [0, 1, 2, 3, 4, 5, 6, 7, 8], [0, 1, 2, 3, 4, 5, 6, 7, 8, 9], [0, 1, 2, 3, 4, 5, 6, 7, 8, 9, 10], [0, 1, 2, 3, 4, 5, 6, 7, 8, 9, 10], [0, 1, 2, 3, 4, 5, 6, 7, 8, 9, 10, 11, 12], [0, 1, 2, 3, 4, 5, 6, 7, 8, 9, 10, 11, 12, 13], [0, 1, 2, 3, 4, 5, 6, 7, 8, 9, 10, 11, 12, 13, 14], [0, 1, 2, 3, 4, 5, 6, 7, 8, 9, 10, 11, 12, 13, 14, 15], [0, 1, 2, 3, 4, 5, 6, 7, 8, 9, 10, 11, 12, 13, 14, 15], [0, 1, 2, 3, 4, 5, 6, 7, 8, 9, 10, 11, 12, 13, 14, 15, 16, 17], [0, 1, 2, 3, 4, 5, 6, 7, 8, 9, 10, 11, 12, 13, 14, 15, 16, 17, 18]] (rel [is (.agg #[.int .i64 b.tab, .slice (some ⟨g1', 0, none⟩) (b.panels.length) (c4'), .int .i64 b.height, .slice (some ⟨g2', 0, none⟩) (b.top.length) (c5'), .slice (some ⟨g3', 0, none⟩) (b.bottom.length) (c6'), .int .i64 b.slot, .bool b.isOpen]),
   is (.agg #[.int .i64 b.tab, .slice (a1) (b.panels.length) (c1), .int .i64 b.height, .slice (a2) (b.top.length) (c2), .slice (a3) (b.bottom.length) (c3), .int .i64 b.slot, .bool b.isOpen]),
   is (.bool true),
   is (.bool false),
   is (.bool false),
   gd (false) false (is (.int .i64 x)),
   gd (false) false (is (.agg #[.int .i64 b.tab, .slice (a1) (b.panels.length) (c1), .int .i64 b.height, .slice (a2) (b.top.length) (c2), .slice (a3) (b.bottom.length) (c3), .int .i64 b.slot, .bool b.isOpen])),
   gd (false) false (is (.int .i64 x)),
   gd (false) false (is (.bool false)),
   is (.bool false),
   is (.bool false),
   gd (false) false (is (.int .i64 x)),
   gd (false) false (is (.int .i64 x)),
   gd (false) false (is (.bool false)),
   is (.bool false),
   is (.bool false),
   gd (false) false (is (.int .i64 x)),
   gd (false) false (is (.int .i64 x)),
   gd (false) false (is (.bool false)),
   is (.bool false)])
  ⟨is_k, is_k, is_k, is_k, is_k, gd_k (is_k), gd_k (is_k), gd_k (is_k), gd_k (is_k), is_k, is_k, gd_k (is_k), gd_k (is_k), gd_k (is_k), is_k, is_k, gd_k (is_k), gd_k (is_k), gd_k (is_k), is_k, trivial⟩
  ⟨fun f s W j l m p q i => opv rfl rfl (by simp [go_sem, i.e 3 k7_3, Joins.cell_of_block (blk_below b7_1 j) 0, Joins.cell_of_block (blk_below b7_1 j) 1, Joins.cell_of_block (blk_below b7_1 j) 2, Joins.cell_of_block (blk_below b7_1 j) 3, Joins.cell_of_block (blk_below b7_1 j) 4, Joins.cell_of_block (blk_below b7_1 j) 5, Joins.cell_of_block (blk_below b7_1 j) 6]) rfl,
  fun f s W j l m p q i => opv rfl rfl (by simp [go_sem, i.e 1 k7_1, Joins.cell_of_block (blk_below b7_0 j) 0, Joins.cell_of_block (blk_below b7_0 j) 1, Joins.cell_of_block (blk_below b7_0 j) 2, Joins.cell_of_block (blk_below b7_0 j) 3, Joins.cell_of_block (blk_below b7_0 j) 4, Joins.cell_of_block (blk_below b7_0 j) 5, Joins.cell_of_block (blk_below b7_0 j) 6]) rfl,
  fun f s W j l m p q i => by have r := below_trans fB7 j; exact opDo_call (args := #[.agg #[.int .i64 b.tab, .slice (some ⟨g1', 0, none⟩) (b.panels.length) (c4'), .int .i64 b.height, .slice (some ⟨g2', 0, none⟩) (b.top.length) (c5'), .slice (some ⟨g3', 0, none⟩) (b.bottom.length) (c6'), .int .i64 b.slot, .bool b.isOpen], .agg #[.int .i64 b.tab, .slice (a1) (b.panels.length) (c1), .int .i64 b.height, .slice (a2) (b.top.length) (c2), .slice (a3) (b.bottom.length) (c3), .int .i64 b.slot, .bool b.isOpen]]) rfl rfl (by simp [go_sem, i.e 38 (l 0 rfl), i.e 39 (l 1 rfl)]) (same_blk (b := b) (d := b) ⟨_, _, _, _, _, _, _, _, _, rfl, ((q38'.below j (Nat.le_refl _))), ((q40'.below j (Nat.le_refl _))), ((q42'.below j (Nat.le_refl _)))⟩ ⟨_, _, _, _, _, _, _, _, _, rfl, (h1.below r (Nat.le_refl _)), (h2.below r (Nat.le_refl _)), (h3.below r (Nat.le_refl _))⟩) ((fun e W' h => by have h1 := h.1; rw [sameB_self] at h1; exact ⟨_, h1, h.2, rfl⟩)),
  fun f s W j l m p q i => opv rfl rfl (by simp [go_sem, i.e 40 (l 2 rfl)]) rfl,
  fun f s W j l m p q i => opv rfl rfl (by simp [go_sem, i.e 41 (l 3 rfl)]) rfl,
  fun f s W j l m p q i => gdo rfl rfl (i.says (d := 42) rfl rfl (l 4 rfl)) fun hgd0 => gv (by simp [go_sem, i.e 4 k7_4]) rfl,
  fun f s W j l m p q i => gdo rfl rfl (i.says (d := 42) rfl rfl (l 4 rfl)) fun hgd0 => gv (by simp [go_sem, i.e 1 k7_1, Joins.cell_of_block (blk_below b7_0 j) 0, Joins.cell_of_block (blk_below b7_0 j) 1, Joins.cell_of_block (blk_below b7_0 j) 2, Joins.cell_of_block (blk_below b7_0 j) 3, Joins.cell_of_block (blk_below b7_0 j) 4, Joins.cell_of_block (blk_below b7_0 j) 5, Joins.cell_of_block (blk_below b7_0 j) 6]) rfl,
  fun f s W j l m p q i => gdo rfl rfl (i.says (d := 42) rfl rfl (l 4 rfl)) fun hgd0 => by have r := below_trans fB7 j; exact wp_called (args := #[.agg #[.int .i64 b.tab, .slice (a1) (b.panels.length) (c1), .int .i64 b.height, .slice (a2) (b.top.length) (c2), .slice (a3) (b.bottom.length) (c3), .int .i64 b.slot, .bool b.isOpen]]) (by simp [go_sem, i.e 44 ((l 6 rfl).1 hgd0)]) (refCheck_blk ⟨_, _, _, _, _, _, _, _, _, rfl, (h1.below r (Nat.le_refl _)), (h2.below r (Nat.le_refl _)), (h3.below r (Nat.le_refl _))⟩) ((fun e W' h => by have h1 := h.1; rw [refCheck_eq, hx] at h1; exact ⟨_, h1, h.2, rfl⟩)),
  fun f s W j l m p q i => gdo rfl rfl (i.says (d := 42) rfl rfl (l 4 rfl)) fun hgd0 => gv (by simp [go_sem, i.e 43 ((l 5 rfl).1 hgd0), i.e 45 ((l 7 rfl).1 hgd0)]) rfl,
  fun f s W j l m p q i => opk (c := false) rfl rfl (fun _ => by simp [go_sem, i.e 42 (l 4 rfl), i.e 46 ((l 8 rfl).1 rfl)]) (fun h => absurd h (by decide)),
  fun f s W j l m p q i => opv rfl rfl (by simp [go_sem, i.e 47 (l 9 rfl)]) rfl,
  fun f s W j l m p q i => gdo rfl rfl (i.says (d := 48) rfl rfl (l 10 rfl)) fun hgd0 => gv (by simp [go_sem, i.e 8 k7_8]) rfl,
  fun f s W j l m p q i => gdo rfl rfl (i.says (d := 48) rfl rfl (l 10 rfl)) fun hgd0 => gv (by simp [go_sem, i.e 4 k7_4]) rfl,
  fun f s W j l m p q i => gdo rfl rfl (i.says (d := 48) rfl rfl (l 10 rfl)) fun hgd0 => gv (by simp [go_sem, i.e 49 ((l 11 rfl).1 hgd0), i.e 50 ((l 12 rfl).1 hgd0)]) rfl,
  fun f s W j l m p q i => opk (c := false) rfl rfl (fun _ => by simp [go_sem, i.e 48 (l 10 rfl), i.e 51 ((l 13 rfl).1 rfl)]) (fun h => absurd h (by decide)),
  fun f s W j l m p q i => opv rfl rfl (by simp [go_sem, i.e 52 (l 14 rfl)]) rfl,
  fun f s W j l m p q i => gdo rfl rfl (i.says (d := 53) rfl rfl (l 15 rfl)) fun hgd0 => gv (by simp [go_sem, i.e 11 k7_11]) rfl,
  fun f s W j l m p q i => gdo rfl rfl (i.says (d := 53) rfl rfl (l 15 rfl)) fun hgd0 => gv (by simp [go_sem, i.e 4 k7_4]) rfl,
  fun f s W j l m p q i => gdo rfl rfl (i.says (d := 53) rfl rfl (l 15 rfl)) fun hgd0 => gv (by simp [go_sem, i.e 54 ((l 16 rfl).1 hgd0), i.e 55 ((l 17 rfl).1 hgd0)]) rfl,
  fun f s W j l m p q i => opk (c := false) rfl rfl (fun _ => by simp [go_sem, i.e 53 (l 15 rfl), i.e 56 ((l 18 rfl).1 rfl)]) (fun h => absurd h (by decide)), trivial⟩ ?_
 intro f8 s8 W8 hB8 g8 hg8
 have fB8 := below_trans fB7 hB8.below
 have z8 := hB8.below.size
 have b8_0 := blk_below b7_0 hB8.below
 have b8_1 := blk_below b7_1 hB8.below
 have q48' := (q38'.below hB8.below (Nat.le_refl _))
 have q49' := (Nat.lt_of_lt_of_le q39' (Below.size hB8.below))
 have q50' := (q40'.below hB8.below (Nat.le_refl _))
 have q51' := (Nat.lt_of_lt_of_le q41' (Below.size hB8.below))
 have q52' := (q42'.below hB8.below (Nat.le_refl _))
 have q53' := (Nat.lt_of_lt_of_le q43' (Below.size hB8.below))
 refine hK10 _ _ ?_
 have k8_1 := kt hg8 1 k7_1
 have k8_2 := kt hg8 2 k7_2
 have k8_4 := kt hg8 4 k7_4
 have k8_5 := kt hg8 5 k7_5
 have k8_6 := kt hg8 6 k7_6
 have k8_7 := kt hg8 7 k7_7
 have k8_9 := kt hg8 9 k7_9
 have k8_10 := kt hg8 10 k7_10
 have k8_57 := kt hg8 57 (hB8.is 19)
 refine wp_cond_false ((fr_eval rfl).trans k8_57) ?_
 refine wp_skip ?_
 refine hK9 _ _ ?_
 refine wp_seq_k fun K12 hK12 => ?_
 refine wp_seq_k fun K13 hK13 => ?_
 refine region_dk 2 [(58, 0), (59, 1)] [[], [0]] (rel [is (.int .i64 x),
   is (.bool true)])
  ⟨is_k, is_k, trivial⟩
  ⟨fun f s W j l m p q i => opv rfl rfl (by simp [go_sem, i.e 4 k8_4]) rfl,
  fun f s W j l m p q i => opv rfl rfl (by simp [go_sem, i.e 58 (l 0 rfl), hn]) rfl, trivial⟩ ?_
 intro f9 s9 W9 hB9 g9 hg9
 have fB9 := below_trans fB8 hB9.below
 have z9 := hB9.below.size
 have b9_0 := blk_below b8_0 hB9.below
 have b9_1 := blk_below b8_1 hB9.below
 have q54' := (q48'.below hB9.below (Nat.le_refl _))
 have q55' := (Nat.lt_of_lt_of_le q49' (Below.size hB9.below))
 have q56' := (q50'.below hB9.below (Nat.le_refl _))
 have q57' := (Nat.lt_of_lt_of_le q51' (Below.size hB9.below))
 have q58' := (q52'.below hB9.below (Nat.le_refl _))
 have q59' := (Nat.lt_of_lt_of_le q53' (Below.size hB9.below))
 refine hK13 _ _ ?_
 have k9_1 := kt hg9 1 k8_1
 have k9_2 := kt hg9 2 k8_2
 have k9_5 := kt hg9 5 k8_5
 have k9_6 := kt hg9 6 k8_6
 have k9_7 := kt hg9 7 k8_7
 have k9_9 := kt hg9 9 k8_9
 have k9_10 := kt hg9 10 k8_10
 have k9_59 := kt hg9 59 (hB9.is 1)
 refine wp_cond_true ((fr_eval rfl).trans k9_59) ?_
 refine wp_seq_k fun K15 hK15 => ?_
 refine region_dk 22 [(60, 0), (61, 1), (62, 2), (63, 3), (64, 4), (65, 5), (66, 6), (67, 7), (68, 8), (69, 9), (70, 10), (71, 11), (72, 12), (73, 13), (74, 14), (75, 15), (76, 16), (77, 17), (78, 18), (79, 19), (80, 20), (2, 21)] [[], [0], [0, 1], [0, 1, 2], [0, 1, 2, 3], [0, 1, 2, 3, 4], [0, 1, 2, 3, 4, 5], [0, 1, 2, 3, 4, 5, 6], [0, 1, 2, 3, 4, 5, 6, 7], [0, 1, 2, 3, 4, 5, 6, 7, 8], [0, 1, 2, 3, 4, 5, 6, 7, 8, 9], [0, 1, 2, 3, 4, 5, 6, 7, 8, 9, 10], [0, 1, 2, 3, 4, 5, 6, 7, 8, 9, 10, 11], [0, 1, 2, 3, 4, 5, 6, 7, 8, 9, 10], [0, 1, 2, 3, 4, 5, 6, 7, 8, 9, 10, 13], [0, 1, 2, 3, 4, 5, 6, 7, 8, 9, 10, 11, 12, 13, 14], [0, 1, 2, 3, 4, 5, 6, 7, 8, 9, 10, 11, 12, 13, 14, 15], [0, 1, 2, 3, 4, 5, 6, 7, 8, 9, 10, 11, 12, 13, 14, 15, 16], [0, 1, 2, 3, 4, 5, 6, 7, 8, 9, 10, 11, 12, 13, 14, 15, 16, 17], [0, 1, 2, 3, 4, 5, 6, 7, 8, 9, 10, 11, 12, 13, 14, 15, 16, 17, 18], [0, 1, 2, 3, 4, 5, 6, 7, 8, 9, 10, 11, 12, 13, 14, 15, 16, 17, 18, 19], [0, 1, 2, 3, 4, 5, 6, 7, 8, 9, 10, 11, 12, 13, 14, 15, 16, 17, 18, 19, 20]] (rel [is (.int .i64 0),
   is (.bool true),
   is (.bool true),
   gd (true) true (is (.int .i64 0)),
   gd (true) true (is (.bool true)),
   is (.bool true),
   is (.bool true),
   gd (true) true (is (.int .i64 0)),
   gd (true) true (is (.bool true)),
   is (.bool true),
   is (.bool true),
   gd (true) true (is (.slice (a44') (0) (c45'))),
   gd (true) true (is (.int .i64 0)),
   gd (true) true (is (.slice (a46') (0) (c47'))),
   gd (true) true (is (.int .i64 0)),
   gd (true) true (is (.int .i64 0)),
   gd (true) true (is (.bool true)),
   is (.bool true),
   is (.bool true),
   gd (true) true (is (.bool true)),
   is (.bool true),
   is (.bool true)])
  ⟨is_k, is_k, is_k, gd_k (is_k), gd_k (is_k), is_k, is_k, gd_k (is_k), gd_k (is_k), is_k, is_k, gd_k (is_k), gd_k (is_k), gd_k (is_k), gd_k (is_k), gd_k (is_k), gd_k (is_k), is_k, is_k, gd_k (is_k), is_k, is_k, trivial⟩
  ⟨fun f s W j l m p q i => opv rfl rfl (by simp [go_sem, i.e 5 k9_5]) rfl,
  fun f s W j l m p q i => opv rfl rfl (by simp [go_sem, i.e 60 (l 0 rfl)]) rfl,
  fun f s W j l m p q i => opv rfl rfl (by simp [go_sem, i.e 61 (l 1 rfl)]) rfl,
  fun f s W j l m p q i => gdo rfl rfl (i.says (d := 62) rfl rfl (l 2 rfl)) fun hgd0 => gv (by simp [go_sem, i.e 6 k9_6]) rfl,
  fun f s W j l m p q i => gdo rfl rfl (i.says (d := 62) rfl rfl (l 2 rfl)) fun hgd0 => gv (by simp [go_sem, i.e 63 ((l 3 rfl).1 hgd0)]) rfl,
  fun f s W j l m p q i => opk (c := true) rfl rfl (fun h => absurd h (by decide)) (fun _ => by simp [go_sem, i.e 62 (l 2 rfl), i.e 64 ((l 4 rfl).1 rfl)]),
  fun f s W j l m p q i => opv rfl rfl (by simp [go_sem, i.e 65 (l 5 rfl)]) rfl,
  fun f s W j l m p q i => gdo rfl rfl (i.says (d := 66) rfl rfl (l 6 rfl)) fun hgd0 => gv (by simp [go_sem, i.e 7 k9_7]) rfl,
  fun f s W j l m p q i => gdo rfl rfl (i.says (d := 66) rfl rfl (l 6 rfl)) fun hgd0 => gv (by simp [go_sem, i.e 67 ((l 7 rfl).1 hgd0)]) rfl,
  fun f s W j l m p q i => opk (c := true) rfl rfl (fun h => absurd h (by decide)) (fun _ => by simp [go_sem, i.e 66 (l 6 rfl), i.e 68 ((l 8 rfl).1 rfl)]),
  fun f s W j l m p q i => opv rfl rfl (by simp [go_sem, i.e 69 (l 9 rfl)]) rfl,
  fun f s W j l m p q i => gdo rfl rfl (i.says (d := 70) rfl rfl (l 10 rfl)) fun hgd0 => gv (by simp [go_sem, i.e 9 k9_9]) rfl,
  fun f s W j l m p q i => gdo rfl rfl (i.says (d := 70) rfl rfl (l 10 rfl)) fun hgd0 => gv (by simp [go_sem, i.e 71 ((l 11 rfl).1 hgd0)]) rfl,
  fun f s W j l m p q i => gdo rfl rfl (i.says (d := 70) rfl rfl (l 10 rfl)) fun hgd0 => gv (by simp [go_sem, i.e 10 k9_10]) rfl,
  fun f s W j l m p q i => gdo rfl rfl (i.says (d := 70) rfl rfl (l 10 rfl)) fun hgd0 => gv (by simp [go_sem, i.e 73 ((l 13 rfl).1 hgd0)]) rfl,
  fun f s W j l m p q i => gdo rfl rfl (i.says (d := 70) rfl rfl (l 10 rfl)) fun hgd0 => gv (by simp [go_sem, i.e 72 ((l 12 rfl).1 hgd0), i.e 74 ((l 14 rfl).1 hgd0), IntWalk.i64_in (0) (by omega)]) rfl,
  fun f s W j l m p q i => gdo rfl rfl (i.says (d := 70) rfl rfl (l 10 rfl)) fun hgd0 => gv (by simp [go_sem, i.e 75 ((l 15 rfl).1 hgd0)]) rfl,
  fun f s W j l m p q i => opk (c := true) rfl rfl (fun h => absurd h (by decide)) (fun _ => by simp [go_sem, i.e 70 (l 10 rfl), i.e 76 ((l 16 rfl).1 rfl)]),
  fun f s W j l m p q i => opv rfl rfl (by simp [go_sem, i.e 77 (l 17 rfl)]) rfl,
  fun f s W j l m p q i => gdo rfl rfl (i.says (d := 78) rfl rfl (l 18 rfl)) fun hgd0 => gc (by simp [go_sem]) (known_any W),
  fun f s W j l m p q i => opk (c := true) rfl rfl (fun h => absurd h (by decide)) (fun _ => by simp [go_sem, i.e 78 (l 18 rfl), i.e 79 ((l 19 rfl).1 rfl)]),
  fun f s W j l m p q i => opv rfl rfl (by simp [go_sem, i.e 80 (l 20 rfl)]) rfl, trivial⟩ ?_
 intro f10 s10 W10 hB10 g10 hg10
 have fB10 := below_trans fB9 hB10.below
 have z10 := hB10.below.size
 have b10_0 := blk_below b9_0 hB10.below
 have b10_1 := blk_below b9_1 hB10.below
 have q60' := (q54'.below hB10.below (Nat.le_refl _))
 have q61' := (Nat.lt_of_lt_of_le q55' (Below.size hB10.below))
 have q62' := (q56'.below hB10.below (Nat.le_refl _))
 have q63' := (Nat.lt_of_lt_of_le q57' (Below.size hB10.below))
 have q64' := (q58'.below hB10.below (Nat.le_refl _))
 have q65' := (Nat.lt_of_lt_of_le q59' (Below.size hB10.below))
 refine hK15 _ _ ?_
 have k10_1 := kt hg10 1 k9_1
 have k10_5 := kt hg10 5 k9_5
 have k10_6 := kt hg10 6 k9_6
 have k10_7 := kt hg10 7 k9_7
 have k10_9 := kt hg10 9 k9_9
 have k10_10 := kt hg10 10 k9_10
 have k10_2 := kt hg10 2 (hB10.is 21)
 refine wp_ret ?_
 refine then_ret ?_
 refine leave_one (N := 153) (v := .bool true) (.inr rfl) Try.results3 rfl k10_2 ?_
 exact ⟨rfl, fB10⟩
set_option maxRecDepth 100000 in
set_option maxHeartbeats 40000000 in
theorem sizes_good (a1 a2 a3 : Option Addr) (c1 c2 c3 : Nat) (b : Bl) (w : World) (h1 : Ii w a1 b.panels.length c1 b.panels) (h2 : Ii w a2 b.top.length c2 b.top) (h3 : Ii w a3 b.bottom.length c3 b.bottom) (hl : largeB b = false) (hcz : checkErr b = 0) :
  Calls Try.prog 3 #[.agg #[.int .i64 b.tab, .slice (a1) (b.panels.length) (c1), .int .i64 b.height, .slice (a2) (b.top.length) (c2), .slice (a3) (b.bottom.length) (c3), .int .i64 b.slot, .bool b.isOpen]] w (fun e w' => e = .returned (.bool true) ∧ Below w.heap.size w w') := by
 have hm1 := h1.len_le
 have hm2 := h2.len_le
 have hm3 := h3.len_le
 obtain ⟨m1, m2, m3⟩ := large_false hl
 have n1 : b.panels.length ≤ 1000 := by omega
 have n2 : b.top.length ≤ 1000 := by omega
 have n3 : b.bottom.length ≤ 1000 := by omega
 obtain ⟨⟨hl1, hl2, hl3⟩, gt, gs, gh, ⟨gp0, gp1, gp2, gp3⟩, gt0, gt1, gu0, gu1⟩ := good_nums hcz
 obtain ⟨q1, o1, hq1, hql1, hqc1⟩ := h1.at (by omega)
 obtain ⟨q2, o2, hq2, hql2, hqc2⟩ := h2.at (by omega)
 obtain ⟨q3, o3, hq3, hql3, hqc3⟩ := h3.at (by omega)
 obtain ⟨p0, hp0⟩ : ∃ y, b.panels.getD 0 0 = y := ⟨_, rfl⟩
 obtain ⟨p1, hp1⟩ : ∃ y, b.panels.getD 1 0 = y := ⟨_, rfl⟩
 obtain ⟨p2, hp2⟩ : ∃ y, b.panels.getD 2 0 = y := ⟨_, rfl⟩
 obtain ⟨p3, hp3⟩ : ∃ y, b.panels.getD 3 0 = y := ⟨_, rfl⟩
 obtain ⟨t0, ht0⟩ : ∃ y, b.top.getD 0 0 = y := ⟨_, rfl⟩
 obtain ⟨t1, ht1⟩ : ∃ y, b.top.getD 1 0 = y := ⟨_, rfl⟩
 obtain ⟨u0, hu0⟩ : ∃ y, b.bottom.getD 0 0 = y := ⟨_, rfl⟩
 obtain ⟨u1, hu1⟩ : ∃ y, b.bottom.getD 1 0 = y := ⟨_, rfl⟩
 rw [hp0] at gp0; rw [hp1] at gp1; rw [hp2] at gp2; rw [hp3] at gp3; rw [ht0] at gt0; rw [ht1] at gt1; rw [hu0] at gu0; rw [hu1] at gu1
 have eA : acrossOf b = (((b.tab + p0) + p1) + p2) + p3 := by rw [acrossOf, hp0, hp1, hp2, hp3]
 have eT : topOf b = max t0 t1 := by rw [topOf, ht0, ht1]
 have eL : alongOf b = ((max t0 t1) + b.height) + (max u0 u1) := by rw [alongOf, eT, hu0, hu1]
 have eS : scoresOf b = [b.tab, b.tab + p0, (b.tab + p0) + p1, ((b.tab + p0) + p1) + p2] := by rw [scoresOf, hp0, hp1, hp2]
 have har := area_in (x := (((b.tab + p0) + p1) + p2) + p3) (y := ((max t0 t1) + b.height) + (max u0 u1)) (by omega) (by omega) (by omega) (by omega)
 refine calls_fr Try.func3 Try.ntmps3 rfl rfl fun g hg => ?_
 have k0 : g 0 = .agg #[.int .i64 b.tab, .slice (a1) (b.panels.length) (c1), .int .i64 b.height, .slice (a2) (b.top.length) (c2), .slice (a3) (b.bottom.length) (c3), .int .i64 b.slot, .bool b.isOpen] := hg 0
 clear hg
 have fB0 : Below w.heap.size w w := Below.refl _ _
 refine wp_seq_k fun K1 hK1 => ?_
 refine region_dk 2 [(1, 0), (2, 1)] [[], []] (rel [bx 0 #[.int .i64 b.tab, .slice (a1) (b.panels.length) (c1), .int .i64 b.height, .slice (a2) (b.top.length) (c2), .slice (a3) (b.bottom.length) (c3), .int .i64 b.slot, .bool b.isOpen] 24,
   is (.bool false)])
  ⟨bx_k, is_k, trivial⟩
  ⟨fun f s W j l m q r i => opb rfl rfl (by simp [go_sem, i.e 0 k0]),
  fun f s W j l m q r i => opv rfl rfl (by simp [go_sem]) rfl, trivial⟩ ?_
 intro f1 s1 W1 hB1 g1 hg1
 have fB1 := below_trans fB0 hB1.below
 have z1 := hB1.below.size
 obtain ⟨r1_0, br1_0⟩ := hB1.is 0
 have lr1_0 := hB1.lr 0 br1_0
 refine hK1 _ _ ?_
 have k1_1 := kt hg1 1 r1_0
 have k1_2 := kt hg1 2 (hB1.is 1)
 refine wp_seq_k fun K2 hK2 => ?_
 refine wp_seq_k fun K3 hK3 => ?_
 refine region_dk 2 [(18, 0), (19, 1)] [[], [0]] (rel [is (.agg #[.int .i64 b.tab, .slice (a1) (b.panels.length) (c1), .int .i64 b.height, .slice (a2) (b.top.length) (c2), .slice (a3) (b.bottom.length) (c3), .int .i64 b.slot, .bool b.isOpen]),
   is (.bool (largeB b))])
  ⟨is_k, is_k, trivial⟩
  ⟨fun f s W j l m q r i => opv rfl rfl (by simp [go_sem, i.e 1 k1_1, Joins.cell_of_block (blk_below br1_0 j) 0, Joins.cell_of_block (blk_below br1_0 j) 1, Joins.cell_of_block (blk_below br1_0 j) 2, Joins.cell_of_block (blk_below br1_0 j) 3, Joins.cell_of_block (blk_below br1_0 j) 4, Joins.cell_of_block (blk_below br1_0 j) 5, Joins.cell_of_block (blk_below br1_0 j) 6]) rfl,
  fun f s W j l m q r i => by have t := below_trans fB1 j; exact opc rfl rfl (by simp [go_sem, i.e 18 (l 0 rfl)]) (large_any a1 a2 a3 c1 c2 c3 b W (h1.below t (Nat.le_refl _)) (h2.below t (Nat.le_refl _)) (h3.below t (Nat.le_refl _))), trivial⟩ ?_
 intro f2 s2 W2 hB2 g2 hg2
 have fB2 := below_trans fB1 hB2.below
 have z2 := hB2.below.size
 have b2_0 := blk_below br1_0 hB2.below
 refine hK3 _ _ ?_
 have k2_1 := kt hg2 1 k1_1
 have k2_2 := kt hg2 2 k1_2
 have k2_19 := kt hg2 19 (hB2.is 1)
 have hc4 : (fr 153 g2).eval (.tmp 19) = .bool false := ((fr_eval rfl).trans k2_19).trans (by rw [hl])
 refine wp_cond_false (hc4) ?_
 refine wp_skip ?_
 refine hK2 _ _ ?_
 refine wp_seq_k fun K5 hK5 => ?_
 refine region_dk 3 [(21, 0), (22, 1), (3, 2)] [[], [0], [], [0, 1, 2]] (rel [is (.agg #[.int .i64 b.tab, .slice (a1) (b.panels.length) (c1), .int .i64 b.height, .slice (a2) (b.top.length) (c2), .slice (a3) (b.bottom.length) (c3), .int .i64 b.slot, .bool b.isOpen]),
   fun v s W => NwBlk (s 1) (b) v W,
   bx 2 #[.int .i64 0, .slice (none) (0) (0), .int .i64 0, .slice (none) (0) (0), .slice (none) (0) (0), .int .i64 0, .bool false] 24])
  ⟨is_k, ⟨fun v k W W' hb h => h.below hb, fun v s s' W e h => by have h' : NwBlk (s 1) (b) v W := h; show NwBlk (s' 1) (b) v W; rw [← e 1 (by simp)]; exact h'⟩, bx_k, trivial⟩
  ⟨fun f s W j l m q r i => opv rfl rfl (by simp [go_sem, i.e 1 k2_1, Joins.cell_of_block (blk_below b2_0 j) 0, Joins.cell_of_block (blk_below b2_0 j) 1, Joins.cell_of_block (blk_below b2_0 j) 2, Joins.cell_of_block (blk_below b2_0 j) 3, Joins.cell_of_block (blk_below b2_0 j) 4, Joins.cell_of_block (blk_below b2_0 j) 5, Joins.cell_of_block (blk_below b2_0 j) 6]) rfl,
  fun f s W j l m q r i => by have t := below_trans fB2 j; exact opDo_call rfl rfl (by simp [go_sem, i.e 21 (l 0 rfl)]) (own_any a1 a2 a3 c1 c2 c3 b W (h1.below t (Nat.le_refl _)) (h2.below t (Nat.le_refl _)) (h3.below t (Nat.le_refl _)) n1 n2 n3) (fun e W' h => by obtain ⟨v, e1, h1, h2⟩ := h; exact ⟨v, e1, h2, (show NwBlk (upd s 1 W.heap.size 1) (b) v W' from by rw [upd_at]; exact h1)⟩),
  fun f s W j l m q r i => opb rfl rfl (by simp [go_sem]), trivial⟩ ?_
 intro f3 s3 W3 hB3 g3 hg3
 have fB3 := below_trans fB2 hB3.below
 have z3 := hB3.below.size
 have b3_0 := blk_below b2_0 hB3.below
 have la3_1_1 := hB3.from' 1 (by decide)
 obtain ⟨g66', c69', g67', c70', g68', c71', r3_1, ⟨q72', q74', q73'⟩, ⟨q75', q77', q76'⟩, ⟨q78', q80', q79'⟩⟩ := hB3.is 1
 obtain ⟨r3_2, br3_2⟩ := hB3.is 2
 have lr3_2 := hB3.lr 2 br3_2
 have la3_1 := hB3.from' 1 (by decide)
 have of3_1_2_0 := hB3.off 1 2 (by decide) (by decide) (by decide) q74' (fun W h => (NwBlk.lt h r3_1).1) (fun _ _ _ h => lt_of_blk h.2)
 have of3_1_2_1 := hB3.off 1 2 (by decide) (by decide) (by decide) q77' (fun W h => (NwBlk.lt h r3_1).2.1) (fun _ _ _ h => lt_of_blk h.2)
 have of3_1_2_2 := hB3.off 1 2 (by decide) (by decide) (by decide) q80' (fun W h => (NwBlk.lt h r3_1).2.2) (fun _ _ _ h => lt_of_blk h.2)
 have k3_1 := kt hg3 1 k2_1
 have k3_2 := kt hg3 2 k2_2
 have k3_22 := kt hg3 22 r3_1
 have k3_3 := kt hg3 3 r3_2
 obtain ⟨W4, hW4⟩ : ∃ W', W' = W3.setRow (s3 2) #[.int .i64 b.tab, .slice (some ⟨g66', 0, none⟩) (b.panels.length) (c69'), .int .i64 b.height, .slice (some ⟨g67', 0, none⟩) (b.top.length) (c70'), .slice (some ⟨g68', 0, none⟩) (b.bottom.length) (c71'), .int .i64 b.slot, .bool b.isOpen] := ⟨_, rfl⟩
 refine tail_skip (o := _) rfl ⟨rfl, rfl⟩ (run_seg hW4 (fr_ev k3_3) (fr_ev k3_22) br3_2 rfl rfl rfl rfl) ?_
 obtain ⟨fB4, nb4, ot4, z4⟩ := seg_facts hW4 fB3 br3_2 (by omega)
 clear hW4
 have b4_0 := ot4 _ _ (by omega) b3_0
 have q81' := (q72'.other ot4 q73' (by omega) z4)
 have q82' := Nat.lt_of_lt_of_le q73' z4
 have q83' := (q75'.other ot4 q76' (by omega) z4)
 have q84' := Nat.lt_of_lt_of_le q76' z4
 have q85' := (q78'.other ot4 q79' (by omega) z4)
 have q86' := Nat.lt_of_lt_of_le q79' z4
 refine wpOps_end ?_
 refine hK5 _ _ ?_
 refine wp_seq_k fun K6 hK6 => ?_
 refine region_dk 3 [(23, 0), (24, 1), (4, 2)] [[], [0], [0, 1]] (rel [is (.agg #[.int .i64 b.tab, .slice (some ⟨g66', 0, none⟩) (b.panels.length) (c69'), .int .i64 b.height, .slice (some ⟨g67', 0, none⟩) (b.top.length) (c70'), .slice (some ⟨g68', 0, none⟩) (b.bottom.length) (c71'), .int .i64 b.slot, .bool b.isOpen]),
   is (.int .i64 0),
   is (.int .i64 0)])
  ⟨is_k, is_k, is_k, trivial⟩
  ⟨fun f s W j l m q r i => opv rfl rfl (by simp [go_sem, i.e 3 k3_3, Joins.cell_of_block (blk_below nb4 j) 0, Joins.cell_of_block (blk_below nb4 j) 1, Joins.cell_of_block (blk_below nb4 j) 2, Joins.cell_of_block (blk_below nb4 j) 3, Joins.cell_of_block (blk_below nb4 j) 4, Joins.cell_of_block (blk_below nb4 j) 5, Joins.cell_of_block (blk_below nb4 j) 6]) rfl,
  fun f s W j l m q r i => opDo_call (args := #[.agg #[.int .i64 b.tab, .slice (some ⟨g66', 0, none⟩) (b.panels.length) (c69'), .int .i64 b.height, .slice (some ⟨g67', 0, none⟩) (b.top.length) (c70'), .slice (some ⟨g68', 0, none⟩) (b.bottom.length) (c71'), .int .i64 b.slot, .bool b.isOpen]]) rfl rfl (by simp [go_sem, i.e 23 (l 0 rfl)]) (check_any _ b W ⟨_, _, _, _, _, _, _, _, _, rfl, ((q81'.below j (Nat.le_refl _))), ((q83'.below j (Nat.le_refl _))), ((q85'.below j (Nat.le_refl _)))⟩) ((fun e W' h => by have h1 := h.1; rw [hcz] at h1; exact ⟨_, h1, h.2, rfl⟩)),
  fun f s W j l m q r i => opv rfl rfl (by simp [go_sem, i.e 24 (l 1 rfl)]) rfl, trivial⟩ ?_
 intro f5 s5 W5 hB5 g5 hg5
 have fB5 := below_trans fB4 hB5.below
 have z5 := hB5.below.size
 have b5_0 := blk_below b4_0 hB5.below
 have b5_1 := blk_below nb4 hB5.below
 have q87' := (q81'.below hB5.below (Nat.le_refl _))
 have q88' := (Nat.lt_of_lt_of_le q82' (Below.size hB5.below))
 have q89' := (q83'.below hB5.below (Nat.le_refl _))
 have q90' := (Nat.lt_of_lt_of_le q84' (Below.size hB5.below))
 have q91' := (q85'.below hB5.below (Nat.le_refl _))
 have q92' := (Nat.lt_of_lt_of_le q86' (Below.size hB5.below))
 refine hK6 _ _ ?_
 have k5_1 := kt hg5 1 k3_1
 have k5_2 := kt hg5 2 k3_2
 have k5_3 := kt hg5 3 k3_3
 have k5_4 := kt hg5 4 (hB5.is 2)
 refine wp_seq_k fun K7 hK7 => ?_
 refine region_dk 11 [(26, 0), (27, 1), (25, 2), (28, 3), (29, 4), (30, 5), (31, 6), (5, 7), (6, 8), (7, 9), (8, 10)] [[], [0], [0, 1], [0, 1, 2], [0, 1, 2], [0, 1, 2], [0, 1, 2], [0, 1, 2, 3], [0, 1, 2, 3, 4, 7], [0, 1, 2, 3, 4, 5, 7, 8], [0, 1, 2, 3, 4, 5, 6, 7, 8, 9]] (rel [is (.agg #[.int .i64 b.tab, .slice (some ⟨g66', 0, none⟩) (b.panels.length) (c69'), .int .i64 b.height, .slice (some ⟨g67', 0, none⟩) (b.top.length) (c70'), .slice (some ⟨g68', 0, none⟩) (b.bottom.length) (c71'), .int .i64 b.slot, .bool b.isOpen]),
   is (.tuple #[.int .i64 ((((b.tab + p0) + p1) + p2) + p3), .int .i64 (((max t0 t1) + b.height) + (max u0 u1)), .int .i64 (((((b.tab + p0) + p1) + p2) + p3) * (((max t0 t1) + b.height) + (max u0 u1))), .int .i64 0]),
   is (.tuple #[.int .i64 ((((b.tab + p0) + p1) + p2) + p3), .int .i64 (((max t0 t1) + b.height) + (max u0 u1)), .int .i64 (((((b.tab + p0) + p1) + p2) + p3) * (((max t0 t1) + b.height) + (max u0 u1))), .int .i64 0]),
   is (.int .i64 ((((b.tab + p0) + p1) + p2) + p3)),
   is (.int .i64 (((max t0 t1) + b.height) + (max u0 u1))),
   is (.int .i64 (((((b.tab + p0) + p1) + p2) + p3) * (((max t0 t1) + b.height) + (max u0 u1)))),
   is (.int .i64 0),
   is (.int .i64 ((((b.tab + p0) + p1) + p2) + p3)),
   is (.int .i64 (((max t0 t1) + b.height) + (max u0 u1))),
   is (.int .i64 (((((b.tab + p0) + p1) + p2) + p3) * (((max t0 t1) + b.height) + (max u0 u1)))),
   is (.int .i64 0)])
  ⟨is_k, is_k, is_k, is_k, is_k, is_k, is_k, is_k, is_k, is_k, is_k, trivial⟩
  ⟨fun f s W j l m q r i => opv rfl rfl (by simp [go_sem, i.e 3 k5_3, Joins.cell_of_block (blk_below b5_1 j) 0, Joins.cell_of_block (blk_below b5_1 j) 1, Joins.cell_of_block (blk_below b5_1 j) 2, Joins.cell_of_block (blk_below b5_1 j) 3, Joins.cell_of_block (blk_below b5_1 j) 4, Joins.cell_of_block (blk_below b5_1 j) 5, Joins.cell_of_block (blk_below b5_1 j) 6]) rfl,
  fun f s W j l m q r i => opDo_call (args := #[.agg #[.int .i64 b.tab, .slice (some ⟨g66', 0, none⟩) (b.panels.length) (c69'), .int .i64 b.height, .slice (some ⟨g67', 0, none⟩) (b.top.length) (c70'), .slice (some ⟨g68', 0, none⟩) (b.bottom.length) (c71'), .int .i64 b.slot, .bool b.isOpen]]) rfl rfl (by simp [go_sem, i.e 26 (l 0 rfl)]) (size_any _ b W ⟨_, _, _, _, _, _, _, _, _, rfl, ((q87'.below j (Nat.le_refl _))), ((q89'.below j (Nat.le_refl _))), ((q91'.below j (Nat.le_refl _)))⟩) ((fun e W' h => ⟨_, h.1, h.2, by rw [if_pos hcz, eA, eL]; rfl⟩)),
  fun f s W j l m q r i => opv rfl rfl (by simp [go_sem, i.e 27 (l 1 rfl)]) rfl,
  fun f s W j l m q r i => opv rfl rfl (by simp [go_sem, i.e 25 (l 2 rfl)]) rfl,
  fun f s W j l m q r i => opv rfl rfl (by simp [go_sem, i.e 25 (l 2 rfl)]) rfl,
  fun f s W j l m q r i => opv rfl rfl (by simp [go_sem, i.e 25 (l 2 rfl)]) rfl,
  fun f s W j l m q r i => opv rfl rfl (by simp [go_sem, i.e 25 (l 2 rfl)]) rfl,
  fun f s W j l m q r i => opv rfl rfl (by simp [go_sem, i.e 28 (l 3 rfl)]) rfl,
  fun f s W j l m q r i => opv rfl rfl (by simp [go_sem, i.e 29 (l 4 rfl)]) rfl,
  fun f s W j l m q r i => opv rfl rfl (by simp [go_sem, i.e 30 (l 5 rfl)]) rfl,
  fun f s W j l m q r i => opv rfl rfl (by simp [go_sem, i.e 31 (l 6 rfl)]) rfl, trivial⟩ ?_
 intro f6 s6 W6 hB6 g6 hg6
 have fB6 := below_trans fB5 hB6.below
 have z6 := hB6.below.size
 have b6_0 := blk_below b5_0 hB6.below
 have b6_1 := blk_below b5_1 hB6.below
 have q93' := (q87'.below hB6.below (Nat.le_refl _))
 have q94' := (Nat.lt_of_lt_of_le q88' (Below.size hB6.below))
 have q95' := (q89'.below hB6.below (Nat.le_refl _))
 have q96' := (Nat.lt_of_lt_of_le q90' (Below.size hB6.below))
 have q97' := (q91'.below hB6.below (Nat.le_refl _))
 have q98' := (Nat.lt_of_lt_of_le q92' (Below.size hB6.below))
 refine hK7 _ _ ?_
 have k6_1 := kt hg6 1 k5_1
 have k6_2 := kt hg6 2 k5_2
 have k6_3 := kt hg6 3 k5_3
 have k6_4 := kt hg6 4 k5_4
 have k6_5 := kt hg6 5 (hB6.is 7)
 have k6_6 := kt hg6 6 (hB6.is 8)
 have k6_7 := kt hg6 7 (hB6.is 9)
 have k6_8 := kt hg6 8 (hB6.is 10)
 refine wp_seq_k fun K8 hK8 => ?_
 refine region_dk 9 [(33, 0), (34, 1), (32, 2), (35, 3), (36, 4), (37, 5), (9, 6), (10, 7), (11, 8)] [[], [0], [0, 1], [0, 1, 2], [0, 1, 2], [0, 1, 2], [0, 1, 2, 3], [0, 1, 2, 3, 4, 6], [0, 1, 2, 3, 4, 5, 6, 7]] (rel [is (.agg #[.int .i64 b.tab, .slice (some ⟨g66', 0, none⟩) (b.panels.length) (c69'), .int .i64 b.height, .slice (some ⟨g67', 0, none⟩) (b.top.length) (c70'), .slice (some ⟨g68', 0, none⟩) (b.bottom.length) (c71'), .int .i64 b.slot, .bool b.isOpen]),
   ab fun v W => ∃ x0 x1, v = .tuple #[x0, x1, .int .i64 0] ∧ IsIiL 4 [b.tab, b.tab + p0, (b.tab + p0) + p1, ((b.tab + p0) + p1) + p2] x0 W ∧ IsIiL 2 [max t0 t1, (max t0 t1) + b.height] x1 W,
   ab fun v W => ∃ x0 x1, v = .tuple #[x0, x1, .int .i64 0] ∧ IsIiL 4 [b.tab, b.tab + p0, (b.tab + p0) + p1, ((b.tab + p0) + p1) + p2] x0 W ∧ IsIiL 2 [max t0 t1, (max t0 t1) + b.height] x1 W,
   ab fun v W => IsIiL 4 [b.tab, b.tab + p0, (b.tab + p0) + p1, ((b.tab + p0) + p1) + p2] v W,
   ab fun v W => IsIiL 2 [max t0 t1, (max t0 t1) + b.height] v W,
   is (.int .i64 0),
   ab fun v W => IsIiL 4 [b.tab, b.tab + p0, (b.tab + p0) + p1, ((b.tab + p0) + p1) + p2] v W,
   ab fun v W => IsIiL 2 [max t0 t1, (max t0 t1) + b.height] v W,
   is (.int .i64 0)])
  ⟨is_k, ab_k fun v W W' hb ⟨x0, x1, e, h0, h1⟩ => ⟨x0, x1, e, h0.below hb, h1.below hb⟩, ab_k fun v W W' hb ⟨x0, x1, e, h0, h1⟩ => ⟨x0, x1, e, h0.below hb, h1.below hb⟩, ab_k fun v W W' hb h => h.below hb, ab_k fun v W W' hb h => h.below hb, is_k, ab_k fun v W W' hb h => h.below hb, ab_k fun v W W' hb h => h.below hb, is_k, trivial⟩
  ⟨fun f s W j l m q r i => opv rfl rfl (by simp [go_sem, i.e 3 k6_3, Joins.cell_of_block (blk_below b6_1 j) 0, Joins.cell_of_block (blk_below b6_1 j) 1, Joins.cell_of_block (blk_below b6_1 j) 2, Joins.cell_of_block (blk_below b6_1 j) 3, Joins.cell_of_block (blk_below b6_1 j) 4, Joins.cell_of_block (blk_below b6_1 j) 5, Joins.cell_of_block (blk_below b6_1 j) 6]) rfl,
  fun f s W j l m q r i => opDo_call (args := #[.agg #[.int .i64 b.tab, .slice (some ⟨g66', 0, none⟩) (b.panels.length) (c69'), .int .i64 b.height, .slice (some ⟨g67', 0, none⟩) (b.top.length) (c70'), .slice (some ⟨g68', 0, none⟩) (b.bottom.length) (c71'), .int .i64 b.slot, .bool b.isOpen]]) rfl rfl (by simp [go_sem, i.e 33 (l 0 rfl)]) (scores_any _ b W ⟨_, _, _, _, _, _, _, _, _, rfl, ((q93'.below j (Nat.le_refl _))), ((q95'.below j (Nat.le_refl _))), ((q97'.below j (Nat.le_refl _)))⟩) ((fun e W' h => by obtain ⟨a, n, c, a', n', c', e1, h1, h2, h3⟩ := h; rw [hcz] at e1; exact ⟨_, e1, h3, _, _, rfl, isIiL_of (xs := [b.tab, b.tab + p0, (b.tab + p0) + p1, ((b.tab + p0) + p1) + p2]) h1 (by rw [if_pos hcz, eS]) rfl, isIiL_of (xs := [max t0 t1, (max t0 t1) + b.height]) h2 (by rw [if_pos hcz, eT]) rfl⟩)),
  fun f s W j l m q r i => opv (v := (f 1)) rfl rfl (by simp [go_sem, (i.at' 34 rfl : r.tmps[34]?.getD undef = f 1)] <;> rfl) (l 1 rfl),
  fun f s W j l m q r i => by obtain ⟨x2_0, x2_1, d2, p2_0, p2_1⟩ := (l 2 rfl); exact opv (v := x2_0) rfl rfl (by simp [go_sem, i.e 32 d2]) p2_0,
  fun f s W j l m q r i => by obtain ⟨x2_0, x2_1, d2, p2_0, p2_1⟩ := (l 2 rfl); exact opv (v := x2_1) rfl rfl (by simp [go_sem, i.e 32 d2]) p2_1,
  fun f s W j l m q r i => by obtain ⟨x2_0, x2_1, d2, p2_0, p2_1⟩ := (l 2 rfl); exact opv rfl rfl (by simp [go_sem, i.e 32 d2]) rfl,
  fun f s W j l m q r i => opv (v := (f 3)) rfl rfl (by simp [go_sem, (i.at' 35 rfl : r.tmps[35]?.getD undef = f 3)] <;> rfl) (l 3 rfl),
  fun f s W j l m q r i => opv (v := (f 4)) rfl rfl (by simp [go_sem, (i.at' 36 rfl : r.tmps[36]?.getD undef = f 4)] <;> rfl) (l 4 rfl),
  fun f s W j l m q r i => opv rfl rfl (by simp [go_sem, i.e 37 (l 5 rfl)]) rfl, trivial⟩ ?_
 intro f7 s7 W7 hB7 g7 hg7
 have fB7 := below_trans fB6 hB7.below
 have z7 := hB7.below.size
 have b7_0 := blk_below b6_0 hB7.below
 have b7_1 := blk_below b6_1 hB7.below
 have q109' := (q93'.below hB7.below (Nat.le_refl _))
 have q110' := (Nat.lt_of_lt_of_le q94' (Below.size hB7.below))
 have q111' := (q95'.below hB7.below (Nat.le_refl _))
 have q112' := (Nat.lt_of_lt_of_le q96' (Below.size hB7.below))
 have q113' := (q97'.below hB7.below (Nat.le_refl _))
 have q114' := (Nat.lt_of_lt_of_le q98' (Below.size hB7.below))
 obtain ⟨a115', o116', c117', r7_6, q118', q119'⟩ := hB7.is 6
 obtain ⟨a120', o121', c122', r7_7, q123', q124'⟩ := hB7.is 7
 refine hK8 _ _ ?_
 have k7_1 := kt hg7 1 k6_1
 have k7_2 := kt hg7 2 k6_2
 have k7_3 := kt hg7 3 k6_3
 have k7_4 := kt hg7 4 k6_4
 have k7_5 := kt hg7 5 k6_5
 have k7_6 := kt hg7 6 k6_6
 have k7_7 := kt hg7 7 k6_7
 have k7_8 := kt hg7 8 k6_8
 have k7_9 := kt hg7 9 r7_6
 have k7_10 := kt hg7 10 r7_7
 have k7_11 := kt hg7 11 (hB7.is 8)
 refine wp_seq_k fun K9 hK9 => ?_
 refine wp_seq_k fun K10 hK10 => ?_
 refine region_dk 20 [(38, 0), (39, 1), (40, 2), (41, 3), (42, 4), (43, 5), (44, 6), (45, 7), (46, 8), (47, 9), (48, 10), (49, 11), (50, 12), (51, 13), (52, 14), (53, 15), (54, 16), (55, 17), (56, 18), (57, 19)] [[], [], [0, 1], [0, 1, 2], [0, 1, 2, 3], [0, 1, 2, 3, 4], [0, 1, 2, 3, 4], [0, 1, 2, 3, 4, 6], [0, 1, 2, 3, 4, 5, 6, 7], [0, 1, 2, 3, 4, 5, 6, 7, 8], [0, 1, 2, 3, 4, 5, 6, 7, 8, 9], [0, 1, 2, 3, 4, 5, 6, 7, 8, 9, 10], [0, 1, 2, 3, 4, 5, 6, 7, 8, 9, 10], [0, 1, 2, 3, 4, 5, 6, 7, 8, 9, 10, 11, 12], [0, 1, 2, 3, 4, 5, 6, 7, 8, 9, 10, 11, 12, 13], [0, 1, 2, 3, 4, 5, 6, 7, 8, 9, 10, 11, 12, 13, 14], [0, 1, 2, 3, 4, 5, 6, 7, 8, 9, 10, 11, 12, 13, 14, 15], [0, 1, 2, 3, 4, 5, 6, 7, 8, 9, 10, 11, 12, 13, 14, 15], [0, 1, 2, 3, 4, 5, 6, 7, 8, 9, 10, 11, 12, 13, 14, 15, 16, 17], [0, 1, 2, 3, 4, 5, 6, 7, 8, 9, 10, 11, 12, 13, 14, 15, 16, 17, 18]] (rel [is (.agg #[.int .i64 b.tab, .slice (some ⟨g66', 0, none⟩) (b.panels.length) (c69'), .int .i64 b.height, .slice (some ⟨g67', 0, none⟩) (b.top.length) (c70'), .slice (some ⟨g68', 0, none⟩) (b.bottom.length) (c71'), .int .i64 b.slot, .bool b.isOpen]),
   is (.agg #[.int .i64 b.tab, .slice (a1) (b.panels.length) (c1), .int .i64 b.height, .slice (a2) (b.top.length) (c2), .slice (a3) (b.bottom.length) (c3), .int .i64 b.slot, .bool b.isOpen]),
   is (.bool true),
   is (.bool false),
   is (.bool false),
   gd (false) false (is (.int .i64 0)),
   gd (false) false (is (.agg #[.int .i64 b.tab, .slice (a1) (b.panels.length) (c1), .int .i64 b.height, .slice (a2) (b.top.length) (c2), .slice (a3) (b.bottom.length) (c3), .int .i64 b.slot, .bool b.isOpen])),
   gd (false) false (is (.int .i64 0)),
   gd (false) false (is (.bool false)),
   is (.bool false),
   is (.bool false),
   gd (false) false (is (.int .i64 0)),
   gd (false) false (is (.int .i64 0)),
   gd (false) false (is (.bool false)),
   is (.bool false),
   is (.bool false),
   gd (false) false (is (.int .i64 0)),
   gd (false) false (is (.int .i64 0)),
   gd (false) false (is (.bool false)),
   is (.bool false)])
  ⟨is_k, is_k, is_k, is_k, is_k, gd_k (is_k), gd_k (is_k), gd_k (is_k), gd_k (is_k), is_k, is_k, gd_k (is_k), gd_k (is_k), gd_k (is_k), is_k, is_k, gd_k (is_k), gd_k (is_k), gd_k (is_k), is_k, trivial⟩
  ⟨fun f s W j l m q r i => opv rfl rfl (by simp [go_sem, i.e 3 k7_3, Joins.cell_of_block (blk_below b7_1 j) 0, Joins.cell_of_block (blk_below b7_1 j) 1, Joins.cell_of_block (blk_below b7_1 j) 2, Joins.cell_of_block (blk_below b7_1 j) 3, Joins.cell_of_block (blk_below b7_1 j) 4, Joins.cell_of_block (blk_below b7_1 j) 5, Joins.cell_of_block (blk_below b7_1 j) 6]) rfl,
  fun f s W j l m q r i => opv rfl rfl (by simp [go_sem, i.e 1 k7_1, Joins.cell_of_block (blk_below b7_0 j) 0, Joins.cell_of_block (blk_below b7_0 j) 1, Joins.cell_of_block (blk_below b7_0 j) 2, Joins.cell_of_block (blk_below b7_0 j) 3, Joins.cell_of_block (blk_below b7_0 j) 4, Joins.cell_of_block (blk_below b7_0 j) 5, Joins.cell_of_block (blk_below b7_0 j) 6]) rfl,
  fun f s W j l m q r i => by have t := below_trans fB7 j; exact opDo_call (args := #[.agg #[.int .i64 b.tab, .slice (some ⟨g66', 0, none⟩) (b.panels.length) (c69'), .int .i64 b.height, .slice (some ⟨g67', 0, none⟩) (b.top.length) (c70'), .slice (some ⟨g68', 0, none⟩) (b.bottom.length) (c71'), .int .i64 b.slot, .bool b.isOpen], .agg #[.int .i64 b.tab, .slice (a1) (b.panels.length) (c1), .int .i64 b.height, .slice (a2) (b.top.length) (c2), .slice (a3) (b.bottom.length) (c3), .int .i64 b.slot, .bool b.isOpen]]) rfl rfl (by simp [go_sem, i.e 38 (l 0 rfl), i.e 39 (l 1 rfl)]) (same_blk (b := b) (d := b) ⟨_, _, _, _, _, _, _, _, _, rfl, ((q109'.below j (Nat.le_refl _))), ((q111'.below j (Nat.le_refl _))), ((q113'.below j (Nat.le_refl _)))⟩ ⟨_, _, _, _, _, _, _, _, _, rfl, (h1.below t (Nat.le_refl _)), (h2.below t (Nat.le_refl _)), (h3.below t (Nat.le_refl _))⟩) ((fun e W' h => by have h1 := h.1; rw [sameB_self] at h1; exact ⟨_, h1, h.2, rfl⟩)),
  fun f s W j l m q r i => opv rfl rfl (by simp [go_sem, i.e 40 (l 2 rfl)]) rfl,
  fun f s W j l m q r i => opv rfl rfl (by simp [go_sem, i.e 41 (l 3 rfl)]) rfl,
  fun f s W j l m q r i => gdo rfl rfl (i.says (d := 42) rfl rfl (l 4 rfl)) fun hgd0 => gv (by simp [go_sem, i.e 4 k7_4]) rfl,
  fun f s W j l m q r i => gdo rfl rfl (i.says (d := 42) rfl rfl (l 4 rfl)) fun hgd0 => gv (by simp [go_sem, i.e 1 k7_1, Joins.cell_of_block (blk_below b7_0 j) 0, Joins.cell_of_block (blk_below b7_0 j) 1, Joins.cell_of_block (blk_below b7_0 j) 2, Joins.cell_of_block (blk_below b7_0 j) 3, Joins.cell_of_block (blk_below b7_0 j) 4, Joins.cell_of_block (blk_below b7_0 j) 5, Joins.cell_of_block (blk_below b7_0 j) 6]) rfl,
  fun f s W j l m q r i => gdo rfl rfl (i.says (d := 42) rfl rfl (l 4 rfl)) fun hgd0 => by have t := below_trans fB7 j; exact wp_called (args := #[.agg #[.int .i64 b.tab, .slice (a1) (b.panels.length) (c1), .int .i64 b.height, .slice (a2) (b.top.length) (c2), .slice (a3) (b.bottom.length) (c3), .int .i64 b.slot, .bool b.isOpen]]) (by simp [go_sem, i.e 44 ((l 6 rfl).1 hgd0)]) (refCheck_blk ⟨_, _, _, _, _, _, _, _, _, rfl, (h1.below t (Nat.le_refl _)), (h2.below t (Nat.le_refl _)), (h3.below t (Nat.le_refl _))⟩) ((fun e W' h => by have h1 := h.1; rw [refCheck_eq, hcz] at h1; exact ⟨_, h1, h.2, rfl⟩)),
  fun f s W j l m q r i => gdo rfl rfl (i.says (d := 42) rfl rfl (l 4 rfl)) fun hgd0 => gv (by simp [go_sem, i.e 43 ((l 5 rfl).1 hgd0), i.e 45 ((l 7 rfl).1 hgd0)]) rfl,
  fun f s W j l m q r i => opk (c := false) rfl rfl (fun _ => by simp [go_sem, i.e 42 (l 4 rfl), i.e 46 ((l 8 rfl).1 rfl)]) (fun h => absurd h (by decide)),
  fun f s W j l m q r i => opv rfl rfl (by simp [go_sem, i.e 47 (l 9 rfl)]) rfl,
  fun f s W j l m q r i => gdo rfl rfl (i.says (d := 48) rfl rfl (l 10 rfl)) fun hgd0 => gv (by simp [go_sem, i.e 8 k7_8]) rfl,
  fun f s W j l m q r i => gdo rfl rfl (i.says (d := 48) rfl rfl (l 10 rfl)) fun hgd0 => gv (by simp [go_sem, i.e 4 k7_4]) rfl,
  fun f s W j l m q r i => gdo rfl rfl (i.says (d := 48) rfl rfl (l 10 rfl)) fun hgd0 => gv (by simp [go_sem, i.e 49 ((l 11 rfl).1 hgd0), i.e 50 ((l 12 rfl).1 hgd0)]) rfl,
  fun f s W j l m q r i => opk (c := false) rfl rfl (fun _ => by simp [go_sem, i.e 48 (l 10 rfl), i.e 51 ((l 13 rfl).1 rfl)]) (fun h => absurd h (by decide)),
  fun f s W j l m q r i => opv rfl rfl (by simp [go_sem, i.e 52 (l 14 rfl)]) rfl,
  fun f s W j l m q r i => gdo rfl rfl (i.says (d := 53) rfl rfl (l 15 rfl)) fun hgd0 => gv (by simp [go_sem, i.e 11 k7_11]) rfl,
  fun f s W j l m q r i => gdo rfl rfl (i.says (d := 53) rfl rfl (l 15 rfl)) fun hgd0 => gv (by simp [go_sem, i.e 4 k7_4]) rfl,
  fun f s W j l m q r i => gdo rfl rfl (i.says (d := 53) rfl rfl (l 15 rfl)) fun hgd0 => gv (by simp [go_sem, i.e 54 ((l 16 rfl).1 hgd0), i.e 55 ((l 17 rfl).1 hgd0)]) rfl,
  fun f s W j l m q r i => opk (c := false) rfl rfl (fun _ => by simp [go_sem, i.e 53 (l 15 rfl), i.e 56 ((l 18 rfl).1 rfl)]) (fun h => absurd h (by decide)), trivial⟩ ?_
 intro f8 s8 W8 hB8 g8 hg8
 have fB8 := below_trans fB7 hB8.below
 have z8 := hB8.below.size
 have b8_0 := blk_below b7_0 hB8.below
 have b8_1 := blk_below b7_1 hB8.below
 have q125' := (q109'.below hB8.below (Nat.le_refl _))
 have q126' := (Nat.lt_of_lt_of_le q110' (Below.size hB8.below))
 have q127' := (q111'.below hB8.below (Nat.le_refl _))
 have q128' := (Nat.lt_of_lt_of_le q112' (Below.size hB8.below))
 have q129' := (q113'.below hB8.below (Nat.le_refl _))
 have q130' := (Nat.lt_of_lt_of_le q114' (Below.size hB8.below))
 have q131' := (q118'.below hB8.below (Nat.le_refl _))
 have q132' := (Nat.lt_of_lt_of_le q119' (Below.size hB8.below))
 have q133' := (q123'.below hB8.below (Nat.le_refl _))
 have q134' := (Nat.lt_of_lt_of_le q124' (Below.size hB8.below))
 refine hK10 _ _ ?_
 have k8_1 := kt hg8 1 k7_1
 have k8_2 := kt hg8 2 k7_2
 have k8_4 := kt hg8 4 k7_4
 have k8_5 := kt hg8 5 k7_5
 have k8_6 := kt hg8 6 k7_6
 have k8_7 := kt hg8 7 k7_7
 have k8_9 := kt hg8 9 k7_9
 have k8_10 := kt hg8 10 k7_10
 have k8_57 := kt hg8 57 (hB8.is 19)
 refine wp_cond_false ((fr_eval rfl).trans k8_57) ?_
 refine wp_skip ?_
 refine hK9 _ _ ?_
 refine wp_seq_k fun K12 hK12 => ?_
 refine wp_seq_k fun K13 hK13 => ?_
 refine region_dk 2 [(58, 0), (59, 1)] [[], [0]] (rel [is (.int .i64 0),
   is (.bool false)])
  ⟨is_k, is_k, trivial⟩
  ⟨fun f s W j l m q r i => opv rfl rfl (by simp [go_sem, i.e 4 k8_4]) rfl,
  fun f s W j l m q r i => opv rfl rfl (by simp [go_sem, i.e 58 (l 0 rfl)]) rfl, trivial⟩ ?_
 intro f9 s9 W9 hB9 g9 hg9
 have fB9 := below_trans fB8 hB9.below
 have z9 := hB9.below.size
 have b9_0 := blk_below b8_0 hB9.below
 have b9_1 := blk_below b8_1 hB9.below
 have q135' := (q125'.below hB9.below (Nat.le_refl _))
 have q136' := (Nat.lt_of_lt_of_le q126' (Below.size hB9.below))
 have q137' := (q127'.below hB9.below (Nat.le_refl _))
 have q138' := (Nat.lt_of_lt_of_le q128' (Below.size hB9.below))
 have q139' := (q129'.below hB9.below (Nat.le_refl _))
 have q140' := (Nat.lt_of_lt_of_le q130' (Below.size hB9.below))
 have q141' := (q131'.below hB9.below (Nat.le_refl _))
 have q142' := (Nat.lt_of_lt_of_le q132' (Below.size hB9.below))
 have q143' := (q133'.below hB9.below (Nat.le_refl _))
 have q144' := (Nat.lt_of_lt_of_le q134' (Below.size hB9.below))
 refine hK13 _ _ ?_
 have k9_1 := kt hg9 1 k8_1
 have k9_2 := kt hg9 2 k8_2
 have k9_5 := kt hg9 5 k8_5
 have k9_6 := kt hg9 6 k8_6
 have k9_7 := kt hg9 7 k8_7
 have k9_9 := kt hg9 9 k8_9
 have k9_10 := kt hg9 10 k8_10
 have k9_59 := kt hg9 59 (hB9.is 1)
 refine wp_cond_false ((fr_eval rfl).trans k9_59) ?_
 refine wp_skip ?_
 refine hK12 _ _ ?_
 refine wp_seq_k fun K15 hK15 => ?_
 refine region_dk 5 [(81, 0), (82, 1), (83, 2), (12, 3), (13, 4)] [[], [0], [], [0, 1], [0, 1, 2, 3]] (rel [is (.pointer (some ⟨(s1 0), 0, none⟩)),
   is (.int .i64 b.tab),
   row 2 0 #[] 3,
   is (.int .i64 b.tab),
   isS fun s => .slice (some ⟨(s 2), 0, none⟩) (0) (0)])
  ⟨is_k, is_k, row_k, is_k, isS_k fun s s' e => by rw [e 2 (by simp)], trivial⟩
  ⟨fun f s W j l m q r i => opv rfl rfl (by simp [go_sem, i.e 1 k9_1]) rfl,
  fun f s W j l m q r i => opv rfl rfl (by simp [go_sem, i.e 81 (l 0 rfl), Joins.cell_of_block (blk_below b9_0 j) 0]) rfl,
  fun f s W j l m q r i => opr rfl rfl (by simp [go_sem]),
  fun f s W j l m q r i => opv rfl rfl (by simp [go_sem, i.e 82 (l 1 rfl)]) rfl,
  fun f s W j l m q r i => opv rfl rfl (by simp [go_sem, i.e 83 (l 2 rfl).1, upd]) rfl, trivial⟩ ?_
 intro f10 s10 W10 hB10 g10 hg10
 have fB10 := below_trans fB9 hB10.below
 have z10 := hB10.below.size
 have b10_0 := blk_below b9_0 hB10.below
 have b10_1 := blk_below b9_1 hB10.below
 have q145' := (q135'.below hB10.below (Nat.le_refl _))
 have q146' := (Nat.lt_of_lt_of_le q136' (Below.size hB10.below))
 have q147' := (q137'.below hB10.below (Nat.le_refl _))
 have q148' := (Nat.lt_of_lt_of_le q138' (Below.size hB10.below))
 have q149' := (q139'.below hB10.below (Nat.le_refl _))
 have q150' := (Nat.lt_of_lt_of_le q140' (Below.size hB10.below))
 have q151' := (q141'.below hB10.below (Nat.le_refl _))
 have q152' := (Nat.lt_of_lt_of_le q142' (Below.size hB10.below))
 have q153' := (q143'.below hB10.below (Nat.le_refl _))
 have q154' := (Nat.lt_of_lt_of_le q144' (Below.size hB10.below))
 obtain ⟨r10_2, br10_2⟩ := hB10.is 2
 have lr10_2 := hB10.lr 2 br10_2
 refine hK15 _ _ ?_
 have k10_1 := kt hg10 1 k9_1
 have k10_2 := kt hg10 2 k9_2
 have k10_5 := kt hg10 5 k9_5
 have k10_6 := kt hg10 6 k9_6
 have k10_7 := kt hg10 7 k9_7
 have k10_9 := kt hg10 9 k9_9
 have k10_10 := kt hg10 10 k9_10
 have k10_12 := kt hg10 12 (hB10.is 3)
 have k10_13 := kt hg10 13 (hB10.is 4)
 refine wp_seq_k fun K16 hK16 => ?_
 refine wp_seq_k fun K17 hK17 => ?_
 refine region_dk 1 [(14, 0)] [[]] (rel [is (.int .i64 0)])
  ⟨is_k, trivial⟩
  ⟨fun f s W j l m q r i => opv rfl rfl (by simp [go_sem]) rfl, trivial⟩ ?_
 intro f11 s11 W11 hB11 g11 hg11
 have fB11 := below_trans fB10 hB11.below
 have z11 := hB11.below.size
 have b11_0 := blk_below b10_0 hB11.below
 have b11_1 := blk_below b10_1 hB11.below
 have b11_2 := blk_below br10_2 hB11.below
 have q155' := (q145'.below hB11.below (Nat.le_refl _))
 have q156' := (Nat.lt_of_lt_of_le q146' (Below.size hB11.below))
 have q157' := (q147'.below hB11.below (Nat.le_refl _))
 have q158' := (Nat.lt_of_lt_of_le q148' (Below.size hB11.below))
 have q159' := (q149'.below hB11.below (Nat.le_refl _))
 have q160' := (Nat.lt_of_lt_of_le q150' (Below.size hB11.below))
 have q161' := (q151'.below hB11.below (Nat.le_refl _))
 have q162' := (Nat.lt_of_lt_of_le q152' (Below.size hB11.below))
 have q163' := (q153'.below hB11.below (Nat.le_refl _))
 have q164' := (Nat.lt_of_lt_of_le q154' (Below.size hB11.below))
 refine hK17 _ _ ?_
 have k11_1 := kt hg11 1 k10_1
 have k11_2 := kt hg11 2 k10_2
 have k11_5 := kt hg11 5 k10_5
 have k11_6 := kt hg11 6 k10_6
 have k11_7 := kt hg11 7 k10_7
 have k11_9 := kt hg11 9 k10_9
 have k11_10 := kt hg11 10 k10_10
 have k11_12 := kt hg11 12 k10_12
 have k11_13 := kt hg11 13 k10_13
 have k11_14 := kt hg11 14 (hB11.is 0)
 refine wp_block ?_
 refine wp_loop_rounds 5 ?_
 rw [rounds_succ]
 refine wp_seq_k fun K18 hK18 => ?_
 refine wp_seq_k fun K19 hK19 => ?_
 refine region_dk 2 [(84, 0), (85, 1)] [[], [0]] (rel [is (.int .i64 0),
   is (.bool true)])
  ⟨is_k, is_k, trivial⟩
  ⟨fun f s W j l m q r i => opv rfl rfl (by simp [go_sem, i.e 14 k11_14]) rfl,
  fun f s W j l m q r i => opv rfl rfl (by simp [go_sem, i.e 84 (l 0 rfl)]) rfl, trivial⟩ ?_
 intro f12 s12 W12 hB12 g12 hg12
 have fB12 := below_trans fB11 hB12.below
 have z12 := hB12.below.size
 have b12_0 := blk_below b11_0 hB12.below
 have b12_1 := blk_below b11_1 hB12.below
 have b12_2 := blk_below b11_2 hB12.below
 have q165' := (q155'.below hB12.below (Nat.le_refl _))
 have q166' := (Nat.lt_of_lt_of_le q156' (Below.size hB12.below))
 have q167' := (q157'.below hB12.below (Nat.le_refl _))
 have q168' := (Nat.lt_of_lt_of_le q158' (Below.size hB12.below))
 have q169' := (q159'.below hB12.below (Nat.le_refl _))
 have q170' := (Nat.lt_of_lt_of_le q160' (Below.size hB12.below))
 have q171' := (q161'.below hB12.below (Nat.le_refl _))
 have q172' := (Nat.lt_of_lt_of_le q162' (Below.size hB12.below))
 have q173' := (q163'.below hB12.below (Nat.le_refl _))
 have q174' := (Nat.lt_of_lt_of_le q164' (Below.size hB12.below))
 refine hK19 _ _ ?_
 have k12_1 := kt hg12 1 k11_1
 have k12_2 := kt hg12 2 k11_2
 have k12_5 := kt hg12 5 k11_5
 have k12_6 := kt hg12 6 k11_6
 have k12_7 := kt hg12 7 k11_7
 have k12_9 := kt hg12 9 k11_9
 have k12_10 := kt hg12 10 k11_10
 have k12_12 := kt hg12 12 k11_12
 have k12_13 := kt hg12 13 k11_13
 have k12_14 := kt hg12 14 k11_14
 have k12_85 := kt hg12 85 (hB12.is 1)
 refine wp_cond_true ((fr_eval rfl).trans k12_85) ?_
 refine wp_skip ?_
 refine hK18 _ _ ?_
 refine wp_seq_k fun K21 hK21 => ?_
 refine wp_block ?_
 refine wp_seq_k fun K22 hK22 => ?_
 refine region_dk 3 [(88, 0), (89, 1), (90, 2), (91, 3), (13, 4)] [[], [], [1], [0, 1, 2], [0, 1, 2, 3]] (rel [is (.slice (some ⟨(s10 2), 0, none⟩) (0) (0)),
   is (.int .i64 b.tab),
   row 2 1 #[.int .i64 b.tab] 3])
  ⟨is_k, is_k, row_k, trivial⟩
  ⟨fun f s W j l m q r i => opv rfl rfl (by simp [go_sem, i.e 13 ((q 4 13 rfl rfl).trans k12_13)]) rfl,
  fun f s W j l m q r i => opv rfl rfl (by simp [go_sem, i.e 12 k12_12]) rfl,
  fun f s W j l m q r i => opr rfl rfl (by simp [go_sem, i.e 89 (l 1 rfl)]), trivial⟩ ?_
 intro f13 s13 W13 hB13 g13 hg13
 have fB13 := below_trans fB12 hB13.below
 have z13 := hB13.below.size
 have b13_0 := blk_below b12_0 hB13.below
 have b13_1 := blk_below b12_1 hB13.below
 have b13_2 := blk_below b12_2 hB13.below
 have q175' := (q165'.below hB13.below (Nat.le_refl _))
 have q176' := (Nat.lt_of_lt_of_le q166' (Below.size hB13.below))
 have q177' := (q167'.below hB13.below (Nat.le_refl _))
 have q178' := (Nat.lt_of_lt_of_le q168' (Below.size hB13.below))
 have q179' := (q169'.below hB13.below (Nat.le_refl _))
 have q180' := (Nat.lt_of_lt_of_le q170' (Below.size hB13.below))
 have q181' := (q171'.below hB13.below (Nat.le_refl _))
 have q182' := (Nat.lt_of_lt_of_le q172' (Below.size hB13.below))
 have q183' := (q173'.below hB13.below (Nat.le_refl _))
 have q184' := (Nat.lt_of_lt_of_le q174' (Below.size hB13.below))
 obtain ⟨r13_2, br13_2⟩ := hB13.is 2
 have lr13_2 := hB13.lr 2 br13_2
 have k13_1 := kt hg13 1 k12_1
 have k13_2 := kt hg13 2 k12_2
 have k13_5 := kt hg13 5 k12_5
 have k13_6 := kt hg13 6 k12_6
 have k13_7 := kt hg13 7 k12_7
 have k13_9 := kt hg13 9 k12_9
 have k13_10 := kt hg13 10 k12_10
 have k13_12 := kt hg13 12 k12_12
 have k13_14 := kt hg13 14 k12_14
 have k13_85 := kt hg13 85 k12_85
 have k13_88 := kt hg13 88 (hB13.is 0)
 have k13_90 := kt hg13 90 r13_2
 obtain ⟨ga14, ca14, W14, ra14, ow14, ot14, z14, gg14, fB14⟩ := growI_tail 22 (xs := []) (c := 0) [b.tab] 0 1 rfl rfl rfl fB13 (ownI_block b13_2 (by omega)) br13_2 rfl
 refine tail_value2 (o := _) rfl rfl rfl (run_appendOp (fr_ev k13_88) (fr_ev k13_90) ra14) ?_
 have b14_0 := ot14 _ _ (by omega) b13_0
 have b14_1 := ot14 _ _ (by omega) b13_1
 have q185' := (q175'.other ot14 q176' (by omega) z14)
 have q186' := Nat.lt_of_lt_of_le q176' z14
 have q187' := (q177'.other ot14 q178' (by omega) z14)
 have q188' := Nat.lt_of_lt_of_le q178' z14
 have q189' := (q179'.other ot14 q180' (by omega) z14)
 have q190' := Nat.lt_of_lt_of_le q180' z14
 have q191' := (q181'.other ot14 q182' (by omega) z14)
 have q192' := Nat.lt_of_lt_of_le q182' z14
 have q193' := (q183'.other ot14 q184' (by omega) z14)
 have q194' := Nat.lt_of_lt_of_le q184' z14
 generalize hg14 : upd g13 91 (.slice (some ⟨ga14, 0, none⟩) (1) (ca14)) = g14
 have k14_1 := ku hg14 1 k13_1
 have k14_2 := ku hg14 2 k13_2
 have k14_5 := ku hg14 5 k13_5
 have k14_6 := ku hg14 6 k13_6
 have k14_7 := ku hg14 7 k13_7
 have k14_9 := ku hg14 9 k13_9
 have k14_10 := ku hg14 10 k13_10
 have k14_12 := ku hg14 12 k13_12
 have k14_14 := ku hg14 14 k13_14
 have k14_85 := ku hg14 85 k13_85
 have k14_88 := ku hg14 88 k13_88
 have k14_90 := ku hg14 90 k13_90
 have k14_91 := kt hg14 91 (upd_same _ _ _)
 refine tail_value (o := _) rfl rfl rfl (v := .slice (some ⟨ga14, 0, none⟩) (1) (ca14)) (by simp [go_sem, frv 153 k14_91]) ?_
 generalize hg15 : upd g14 13 (.slice (some ⟨ga14, 0, none⟩) (1) (ca14)) = g15
 have k15_1 := ku hg15 1 k14_1
 have k15_2 := ku hg15 2 k14_2
 have k15_5 := ku hg15 5 k14_5
 have k15_6 := ku hg15 6 k14_6
 have k15_7 := ku hg15 7 k14_7
 have k15_9 := ku hg15 9 k14_9
 have k15_10 := ku hg15 10 k14_10
 have k15_12 := ku hg15 12 k14_12
 have k15_14 := ku hg15 14 k14_14
 have k15_85 := ku hg15 85 k14_85
 have k15_88 := ku hg15 88 k14_88
 have k15_90 := ku hg15 90 k14_90
 have k15_91 := ku hg15 91 k14_91
 have k15_13 := kt hg15 13 (upd_same _ _ _)
 refine wpOps_end ?_
 refine hK22 _ _ ?_
 refine region_dk 8 [(92, 0), (93, 1), (94, 2), (95, 3), (96, 4), (97, 5), (98, 6), (12, 7)] [[], [], [1], [], [1, 2, 3], [1, 2, 3, 4], [0, 1, 2, 3, 4, 5], [0, 1, 2, 3, 4, 5, 6]] (rel [is (.int .i64 b.tab),
   is (.pointer (some ⟨(s1 0), 1, none⟩)),
   is (.slice (a1) (b.panels.length) (c1)),
   is (.int .i64 0),
   is (.pointer (some ⟨q1, o1, none⟩)),
   is (.int .i64 p0),
   is (.int .i64 (b.tab + p0)),
   is (.int .i64 (b.tab + p0))])
  ⟨is_k, is_k, is_k, is_k, is_k, is_k, is_k, is_k, trivial⟩
  ⟨fun f s W j l m q r i => opv rfl rfl (by simp [go_sem, i.e 12 ((q 7 12 rfl rfl).trans k15_12)]) rfl,
  fun f s W j l m q r i => opv rfl rfl (by simp [go_sem, i.e 1 k15_1]) rfl,
  fun f s W j l m q r i => opv rfl rfl (by simp [go_sem, i.e 93 (l 1 rfl), Joins.cell_of_block (blk_below b14_0 j) 1]) rfl,
  fun f s W j l m q r i => opv rfl rfl (by simp [go_sem, i.e 14 k15_14]) rfl,
  fun f s W j l m q r i => opv rfl rfl (by simp [go_sem, i.e 94 (l 2 rfl), i.e 95 (l 3 rfl), hq1, hl1]) rfl,
  fun f s W j l m q r i => by have t := below_trans fB14 j; have u1_0 : W.cell? ⟨q1, o1, none⟩ = some (.int .i64 p0) := (t.cell (p := ⟨q1, o1, none⟩) hql1).trans (by have hq_ := hqc1 0 (by omega); rw [hp0] at hq_; exact hq_); exact opv rfl rfl (by simp [go_sem, i.e 96 (l 4 rfl), u1_0]) rfl,
  fun f s W j l m q r i => opv rfl rfl (by simp [go_sem, i.e 92 (l 0 rfl), i.e 97 (l 5 rfl), IntWalk.i64_in (b.tab + p0) (by omega)]) rfl,
  fun f s W j l m q r i => opv rfl rfl (by simp [go_sem, i.e 98 (l 6 rfl)]) rfl, trivial⟩ ?_
 intro f16 s16 W16 hB16 g16 hg16
 have fB16 := below_trans fB14 hB16.below
 have z16 := hB16.below.size
 have b16_0 := blk_below b14_0 hB16.below
 have b16_1 := blk_below b14_1 hB16.below
 have q195' := (q185'.below hB16.below (Nat.le_refl _))
 have q196' := (Nat.lt_of_lt_of_le q186' (Below.size hB16.below))
 have q197' := (q187'.below hB16.below (Nat.le_refl _))
 have q198' := (Nat.lt_of_lt_of_le q188' (Below.size hB16.below))
 have q199' := (q189'.below hB16.below (Nat.le_refl _))
 have q200' := (Nat.lt_of_lt_of_le q190' (Below.size hB16.below))
 have q201' := (q191'.below hB16.below (Nat.le_refl _))
 have q202' := (Nat.lt_of_lt_of_le q192' (Below.size hB16.below))
 have q203' := (q193'.below hB16.below (Nat.le_refl _))
 have q204' := (Nat.lt_of_lt_of_le q194' (Below.size hB16.below))
 have q205' := (ow14.below hB16.below)
 refine wpOps_end ?_
 have k16_1 := kt hg16 1 k15_1
 have k16_2 := kt hg16 2 k15_2
 have k16_5 := kt hg16 5 k15_5
 have k16_6 := kt hg16 6 k15_6
 have k16_7 := kt hg16 7 k15_7
 have k16_9 := kt hg16 9 k15_9
 have k16_10 := kt hg16 10 k15_10
 have k16_14 := kt hg16 14 k15_14
 have k16_85 := kt hg16 85 k15_85
 have k16_88 := kt hg16 88 k15_88
 have k16_90 := kt hg16 90 k15_90
 have k16_91 := kt hg16 91 k15_91
 have k16_13 := kt hg16 13 k15_13
 have k16_12 := kt hg16 12 (hB16.is 7)
 refine inBlock_normal ?_
 refine hK21 _ _ ?_
 refine region_dk 3 [(86, 0), (87, 1), (14, 2)] [[], [0], [0, 1]] (rel [is (.int .i64 0),
   is (.int .i64 1),
   is (.int .i64 1)])
  ⟨is_k, is_k, is_k, trivial⟩
  ⟨fun f s W j l m q r i => opv rfl rfl (by simp [go_sem, i.e 14 ((q 2 14 rfl rfl).trans k16_14)]) rfl,
  fun f s W j l m q r i => opv rfl rfl (by simp [go_sem, i.e 86 (l 0 rfl), IntWalk.i64_in (1) (by omega)]) rfl,
  fun f s W j l m q r i => opv rfl rfl (by simp [go_sem, i.e 87 (l 1 rfl)]) rfl, trivial⟩ ?_
 intro f17 s17 W17 hB17 g17 hg17
 have fB17 := below_trans fB16 hB17.below
 have z17 := hB17.below.size
 have b17_0 := blk_below b16_0 hB17.below
 have b17_1 := blk_below b16_1 hB17.below
 have q206' := (q195'.below hB17.below (Nat.le_refl _))
 have q207' := (Nat.lt_of_lt_of_le q196' (Below.size hB17.below))
 have q208' := (q197'.below hB17.below (Nat.le_refl _))
 have q209' := (Nat.lt_of_lt_of_le q198' (Below.size hB17.below))
 have q210' := (q199'.below hB17.below (Nat.le_refl _))
 have q211' := (Nat.lt_of_lt_of_le q200' (Below.size hB17.below))
 have q212' := (q201'.below hB17.below (Nat.le_refl _))
 have q213' := (Nat.lt_of_lt_of_le q202' (Below.size hB17.below))
 have q214' := (q203'.below hB17.below (Nat.le_refl _))
 have q215' := (Nat.lt_of_lt_of_le q204' (Below.size hB17.below))
 have q216' := (q205'.below hB17.below)
 refine wpOps_end ?_
 have k17_1 := kt hg17 1 k16_1
 have k17_2 := kt hg17 2 k16_2
 have k17_5 := kt hg17 5 k16_5
 have k17_6 := kt hg17 6 k16_6
 have k17_7 := kt hg17 7 k16_7
 have k17_9 := kt hg17 9 k16_9
 have k17_10 := kt hg17 10 k16_10
 have k17_85 := kt hg17 85 k16_85
 have k17_88 := kt hg17 88 k16_88
 have k17_90 := kt hg17 90 k16_90
 have k17_91 := kt hg17 91 k16_91
 have k17_13 := kt hg17 13 k16_13
 have k17_12 := kt hg17 12 k16_12
 have k17_14 := kt hg17 14 (hB17.is 2)
 refine then_normal ?_
 rw [rounds_succ]
 refine wp_seq_k fun K23 hK23 => ?_
 refine wp_seq_k fun K24 hK24 => ?_
 refine region_dk 2 [(84, 0), (85, 1)] [[], [0]] (rel [is (.int .i64 1),
   is (.bool true)])
  ⟨is_k, is_k, trivial⟩
  ⟨fun f s W j l m q r i => opv rfl rfl (by simp [go_sem, i.e 14 k17_14]) rfl,
  fun f s W j l m q r i => opv rfl rfl (by simp [go_sem, i.e 84 (l 0 rfl)]) rfl, trivial⟩ ?_
 intro f18 s18 W18 hB18 g18 hg18
 have fB18 := below_trans fB17 hB18.below
 have z18 := hB18.below.size
 have b18_0 := blk_below b17_0 hB18.below
 have b18_1 := blk_below b17_1 hB18.below
 have q217' := (q206'.below hB18.below (Nat.le_refl _))
 have q218' := (Nat.lt_of_lt_of_le q207' (Below.size hB18.below))
 have q219' := (q208'.below hB18.below (Nat.le_refl _))
 have q220' := (Nat.lt_of_lt_of_le q209' (Below.size hB18.below))
 have q221' := (q210'.below hB18.below (Nat.le_refl _))
 have q222' := (Nat.lt_of_lt_of_le q211' (Below.size hB18.below))
 have q223' := (q212'.below hB18.below (Nat.le_refl _))
 have q224' := (Nat.lt_of_lt_of_le q213' (Below.size hB18.below))
 have q225' := (q214'.below hB18.below (Nat.le_refl _))
 have q226' := (Nat.lt_of_lt_of_le q215' (Below.size hB18.below))
 have q227' := (q216'.below hB18.below)
 refine hK24 _ _ ?_
 have k18_1 := kt hg18 1 k17_1
 have k18_2 := kt hg18 2 k17_2
 have k18_5 := kt hg18 5 k17_5
 have k18_6 := kt hg18 6 k17_6
 have k18_7 := kt hg18 7 k17_7
 have k18_9 := kt hg18 9 k17_9
 have k18_10 := kt hg18 10 k17_10
 have k18_88 := kt hg18 88 k17_88
 have k18_90 := kt hg18 90 k17_90
 have k18_91 := kt hg18 91 k17_91
 have k18_13 := kt hg18 13 k17_13
 have k18_12 := kt hg18 12 k17_12
 have k18_14 := kt hg18 14 k17_14
 have k18_85 := kt hg18 85 (hB18.is 1)
 refine wp_cond_true ((fr_eval rfl).trans k18_85) ?_
 refine wp_skip ?_
 refine hK23 _ _ ?_
 refine wp_seq_k fun K26 hK26 => ?_
 refine wp_block ?_
 refine wp_seq_k fun K27 hK27 => ?_
 refine region_dk 3 [(88, 0), (89, 1), (90, 2), (91, 3), (13, 4)] [[], [], [1], [0, 1, 2], [0, 1, 2, 3]] (rel [is (.slice (some ⟨ga14, 0, none⟩) (1) (ca14)),
   is (.int .i64 (b.tab + p0)),
   row 2 1 #[.int .i64 (b.tab + p0)] 3])
  ⟨is_k, is_k, row_k, trivial⟩
  ⟨fun f s W j l m q r i => opv rfl rfl (by simp [go_sem, i.e 13 ((q 4 13 rfl rfl).trans k18_13)]) rfl,
  fun f s W j l m q r i => opv rfl rfl (by simp [go_sem, i.e 12 k18_12]) rfl,
  fun f s W j l m q r i => opr rfl rfl (by simp [go_sem, i.e 89 (l 1 rfl)]), trivial⟩ ?_
 intro f19 s19 W19 hB19 g19 hg19
 have fB19 := below_trans fB18 hB19.below
 have z19 := hB19.below.size
 have b19_0 := blk_below b18_0 hB19.below
 have b19_1 := blk_below b18_1 hB19.below
 have q228' := (q217'.below hB19.below (Nat.le_refl _))
 have q229' := (Nat.lt_of_lt_of_le q218' (Below.size hB19.below))
 have q230' := (q219'.below hB19.below (Nat.le_refl _))
 have q231' := (Nat.lt_of_lt_of_le q220' (Below.size hB19.below))
 have q232' := (q221'.below hB19.below (Nat.le_refl _))
 have q233' := (Nat.lt_of_lt_of_le q222' (Below.size hB19.below))
 have q234' := (q223'.below hB19.below (Nat.le_refl _))
 have q235' := (Nat.lt_of_lt_of_le q224' (Below.size hB19.below))
 have q236' := (q225'.below hB19.below (Nat.le_refl _))
 have q237' := (Nat.lt_of_lt_of_le q226' (Below.size hB19.below))
 have q238' := (q227'.below hB19.below)
 obtain ⟨r19_2, br19_2⟩ := hB19.is 2
 have lr19_2 := hB19.lr 2 br19_2
 have k19_1 := kt hg19 1 k18_1
 have k19_2 := kt hg19 2 k18_2
 have k19_5 := kt hg19 5 k18_5
 have k19_6 := kt hg19 6 k18_6
 have k19_7 := kt hg19 7 k18_7
 have k19_9 := kt hg19 9 k18_9
 have k19_10 := kt hg19 10 k18_10
 have k19_12 := kt hg19 12 k18_12
 have k19_14 := kt hg19 14 k18_14
 have k19_85 := kt hg19 85 k18_85
 have k19_88 := kt hg19 88 (hB19.is 0)
 have k19_90 := kt hg19 90 r19_2
 obtain ⟨ga20, ca20, W20, ra20, ow20, ot20, z20, gg20, fB20⟩ := growI_tail 22 (xs := [b.tab]) (c := ca14) [b.tab, b.tab + p0] 1 2 rfl rfl rfl fB19 q238' br19_2 rfl
 refine tail_value2 (o := _) rfl rfl rfl (run_appendOp (fr_ev k19_88) (fr_ev k19_90) ra20) ?_
 have b20_0 := ot20 _ _ (by omega) b19_0
 have b20_1 := ot20 _ _ (by omega) b19_1
 have q239' := (q228'.other ot20 q229' (by omega) z20)
 have q240' := Nat.lt_of_lt_of_le q229' z20
 have q241' := (q230'.other ot20 q231' (by omega) z20)
 have q242' := Nat.lt_of_lt_of_le q231' z20
 have q243' := (q232'.other ot20 q233' (by omega) z20)
 have q244' := Nat.lt_of_lt_of_le q233' z20
 have q245' := (q234'.other ot20 q235' (by omega) z20)
 have q246' := Nat.lt_of_lt_of_le q235' z20
 have q247' := (q236'.other ot20 q237' (by omega) z20)
 have q248' := Nat.lt_of_lt_of_le q237' z20
 generalize hg20 : upd g19 91 (.slice (some ⟨ga20, 0, none⟩) (2) (ca20)) = g20
 have k20_1 := ku hg20 1 k19_1
 have k20_2 := ku hg20 2 k19_2
 have k20_5 := ku hg20 5 k19_5
 have k20_6 := ku hg20 6 k19_6
 have k20_7 := ku hg20 7 k19_7
 have k20_9 := ku hg20 9 k19_9
 have k20_10 := ku hg20 10 k19_10
 have k20_12 := ku hg20 12 k19_12
 have k20_14 := ku hg20 14 k19_14
 have k20_85 := ku hg20 85 k19_85
 have k20_88 := ku hg20 88 k19_88
 have k20_90 := ku hg20 90 k19_90
 have k20_91 := kt hg20 91 (upd_same _ _ _)
 refine tail_value (o := _) rfl rfl rfl (v := .slice (some ⟨ga20, 0, none⟩) (2) (ca20)) (by simp [go_sem, frv 153 k20_91]) ?_
 generalize hg21 : upd g20 13 (.slice (some ⟨ga20, 0, none⟩) (2) (ca20)) = g21
 have k21_1 := ku hg21 1 k20_1
 have k21_2 := ku hg21 2 k20_2
 have k21_5 := ku hg21 5 k20_5
 have k21_6 := ku hg21 6 k20_6
 have k21_7 := ku hg21 7 k20_7
 have k21_9 := ku hg21 9 k20_9
 have k21_10 := ku hg21 10 k20_10
 have k21_12 := ku hg21 12 k20_12
 have k21_14 := ku hg21 14 k20_14
 have k21_85 := ku hg21 85 k20_85
 have k21_88 := ku hg21 88 k20_88
 have k21_90 := ku hg21 90 k20_90
 have k21_91 := ku hg21 91 k20_91
 have k21_13 := kt hg21 13 (upd_same _ _ _)
 refine wpOps_end ?_
 refine hK27 _ _ ?_
 refine region_dk 8 [(92, 0), (93, 1), (94, 2), (95, 3), (96, 4), (97, 5), (98, 6), (12, 7)] [[], [], [1], [], [1, 2, 3], [1, 2, 3, 4], [0, 1, 2, 3, 4, 5], [0, 1, 2, 3, 4, 5, 6]] (rel [is (.int .i64 (b.tab + p0)),
   is (.pointer (some ⟨(s1 0), 1, none⟩)),
   is (.slice (a1) (b.panels.length) (c1)),
   is (.int .i64 1),
   is (.pointer (some ⟨q1, o1 + 1, none⟩)),
   is (.int .i64 p1),
   is (.int .i64 ((b.tab + p0) + p1)),
   is (.int .i64 ((b.tab + p0) + p1))])
  ⟨is_k, is_k, is_k, is_k, is_k, is_k, is_k, is_k, trivial⟩
  ⟨fun f s W j l m q r i => opv rfl rfl (by simp [go_sem, i.e 12 ((q 7 12 rfl rfl).trans k21_12)]) rfl,
  fun f s W j l m q r i => opv rfl rfl (by simp [go_sem, i.e 1 k21_1]) rfl,
  fun f s W j l m q r i => opv rfl rfl (by simp [go_sem, i.e 93 (l 1 rfl), Joins.cell_of_block (blk_below b20_0 j) 1]) rfl,
  fun f s W j l m q r i => opv rfl rfl (by simp [go_sem, i.e 14 k21_14]) rfl,
  fun f s W j l m q r i => opv rfl rfl (by simp [go_sem, i.e 94 (l 2 rfl), i.e 95 (l 3 rfl), hq1, hl1]) rfl,
  fun f s W j l m q r i => by have t := below_trans fB20 j; have u1_1 : W.cell? ⟨q1, o1 + 1, none⟩ = some (.int .i64 p1) := (t.cell (p := ⟨q1, o1 + 1, none⟩) hql1).trans (by have hq_ := hqc1 1 (by omega); rw [hp1] at hq_; exact hq_); exact opv rfl rfl (by simp [go_sem, i.e 96 (l 4 rfl), u1_1]) rfl,
  fun f s W j l m q r i => opv rfl rfl (by simp [go_sem, i.e 92 (l 0 rfl), i.e 97 (l 5 rfl), IntWalk.i64_in ((b.tab + p0) + p1) (by omega)]) rfl,
  fun f s W j l m q r i => opv rfl rfl (by simp [go_sem, i.e 98 (l 6 rfl)]) rfl, trivial⟩ ?_
 intro f22 s22 W22 hB22 g22 hg22
 have fB22 := below_trans fB20 hB22.below
 have z22 := hB22.below.size
 have b22_0 := blk_below b20_0 hB22.below
 have b22_1 := blk_below b20_1 hB22.below
 have q249' := (q239'.below hB22.below (Nat.le_refl _))
 have q250' := (Nat.lt_of_lt_of_le q240' (Below.size hB22.below))
 have q251' := (q241'.below hB22.below (Nat.le_refl _))
 have q252' := (Nat.lt_of_lt_of_le q242' (Below.size hB22.below))
 have q253' := (q243'.below hB22.below (Nat.le_refl _))
 have q254' := (Nat.lt_of_lt_of_le q244' (Below.size hB22.below))
 have q255' := (q245'.below hB22.below (Nat.le_refl _))
 have q256' := (Nat.lt_of_lt_of_le q246' (Below.size hB22.below))
 have q257' := (q247'.below hB22.below (Nat.le_refl _))
 have q258' := (Nat.lt_of_lt_of_le q248' (Below.size hB22.below))
 have q259' := (ow20.below hB22.below)
 refine wpOps_end ?_
 have k22_1 := kt hg22 1 k21_1
 have k22_2 := kt hg22 2 k21_2
 have k22_5 := kt hg22 5 k21_5
 have k22_6 := kt hg22 6 k21_6
 have k22_7 := kt hg22 7 k21_7
 have k22_9 := kt hg22 9 k21_9
 have k22_10 := kt hg22 10 k21_10
 have k22_14 := kt hg22 14 k21_14
 have k22_85 := kt hg22 85 k21_85
 have k22_88 := kt hg22 88 k21_88
 have k22_90 := kt hg22 90 k21_90
 have k22_91 := kt hg22 91 k21_91
 have k22_13 := kt hg22 13 k21_13
 have k22_12 := kt hg22 12 (hB22.is 7)
 refine inBlock_normal ?_
 refine hK26 _ _ ?_
 refine region_dk 3 [(86, 0), (87, 1), (14, 2)] [[], [0], [0, 1]] (rel [is (.int .i64 1),
   is (.int .i64 2),
   is (.int .i64 2)])
  ⟨is_k, is_k, is_k, trivial⟩
  ⟨fun f s W j l m q r i => opv rfl rfl (by simp [go_sem, i.e 14 ((q 2 14 rfl rfl).trans k22_14)]) rfl,
  fun f s W j l m q r i => opv rfl rfl (by simp [go_sem, i.e 86 (l 0 rfl), IntWalk.i64_in (2) (by omega)]) rfl,
  fun f s W j l m q r i => opv rfl rfl (by simp [go_sem, i.e 87 (l 1 rfl)]) rfl, trivial⟩ ?_
 intro f23 s23 W23 hB23 g23 hg23
 have fB23 := below_trans fB22 hB23.below
 have z23 := hB23.below.size
 have b23_0 := blk_below b22_0 hB23.below
 have b23_1 := blk_below b22_1 hB23.below
 have q260' := (q249'.below hB23.below (Nat.le_refl _))
 have q261' := (Nat.lt_of_lt_of_le q250' (Below.size hB23.below))
 have q262' := (q251'.below hB23.below (Nat.le_refl _))
 have q263' := (Nat.lt_of_lt_of_le q252' (Below.size hB23.below))
 have q264' := (q253'.below hB23.below (Nat.le_refl _))
 have q265' := (Nat.lt_of_lt_of_le q254' (Below.size hB23.below))
 have q266' := (q255'.below hB23.below (Nat.le_refl _))
 have q267' := (Nat.lt_of_lt_of_le q256' (Below.size hB23.below))
 have q268' := (q257'.below hB23.below (Nat.le_refl _))
 have q269' := (Nat.lt_of_lt_of_le q258' (Below.size hB23.below))
 have q270' := (q259'.below hB23.below)
 refine wpOps_end ?_
 have k23_1 := kt hg23 1 k22_1
 have k23_2 := kt hg23 2 k22_2
 have k23_5 := kt hg23 5 k22_5
 have k23_6 := kt hg23 6 k22_6
 have k23_7 := kt hg23 7 k22_7
 have k23_9 := kt hg23 9 k22_9
 have k23_10 := kt hg23 10 k22_10
 have k23_85 := kt hg23 85 k22_85
 have k23_88 := kt hg23 88 k22_88
 have k23_90 := kt hg23 90 k22_90
 have k23_91 := kt hg23 91 k22_91
 have k23_13 := kt hg23 13 k22_13
 have k23_12 := kt hg23 12 k22_12
 have k23_14 := kt hg23 14 (hB23.is 2)
 refine then_normal ?_
 rw [rounds_succ]
 refine wp_seq_k fun K28 hK28 => ?_
 refine wp_seq_k fun K29 hK29 => ?_
 refine region_dk 2 [(84, 0), (85, 1)] [[], [0]] (rel [is (.int .i64 2),
   is (.bool true)])
  ⟨is_k, is_k, trivial⟩
  ⟨fun f s W j l m q r i => opv rfl rfl (by simp [go_sem, i.e 14 k23_14]) rfl,
  fun f s W j l m q r i => opv rfl rfl (by simp [go_sem, i.e 84 (l 0 rfl)]) rfl, trivial⟩ ?_
 intro f24 s24 W24 hB24 g24 hg24
 have fB24 := below_trans fB23 hB24.below
 have z24 := hB24.below.size
 have b24_0 := blk_below b23_0 hB24.below
 have b24_1 := blk_below b23_1 hB24.below
 have q271' := (q260'.below hB24.below (Nat.le_refl _))
 have q272' := (Nat.lt_of_lt_of_le q261' (Below.size hB24.below))
 have q273' := (q262'.below hB24.below (Nat.le_refl _))
 have q274' := (Nat.lt_of_lt_of_le q263' (Below.size hB24.below))
 have q275' := (q264'.below hB24.below (Nat.le_refl _))
 have q276' := (Nat.lt_of_lt_of_le q265' (Below.size hB24.below))
 have q277' := (q266'.below hB24.below (Nat.le_refl _))
 have q278' := (Nat.lt_of_lt_of_le q267' (Below.size hB24.below))
 have q279' := (q268'.below hB24.below (Nat.le_refl _))
 have q280' := (Nat.lt_of_lt_of_le q269' (Below.size hB24.below))
 have q281' := (q270'.below hB24.below)
 refine hK29 _ _ ?_
 have k24_1 := kt hg24 1 k23_1
 have k24_2 := kt hg24 2 k23_2
 have k24_5 := kt hg24 5 k23_5
 have k24_6 := kt hg24 6 k23_6
 have k24_7 := kt hg24 7 k23_7
 have k24_9 := kt hg24 9 k23_9
 have k24_10 := kt hg24 10 k23_10
 have k24_88 := kt hg24 88 k23_88
 have k24_90 := kt hg24 90 k23_90
 have k24_91 := kt hg24 91 k23_91
 have k24_13 := kt hg24 13 k23_13
 have k24_12 := kt hg24 12 k23_12
 have k24_14 := kt hg24 14 k23_14
 have k24_85 := kt hg24 85 (hB24.is 1)
 refine wp_cond_true ((fr_eval rfl).trans k24_85) ?_
 refine wp_skip ?_
 refine hK28 _ _ ?_
 refine wp_seq_k fun K31 hK31 => ?_
 refine wp_block ?_
 refine wp_seq_k fun K32 hK32 => ?_
 refine region_dk 3 [(88, 0), (89, 1), (90, 2), (91, 3), (13, 4)] [[], [], [1], [0, 1, 2], [0, 1, 2, 3]] (rel [is (.slice (some ⟨ga20, 0, none⟩) (2) (ca20)),
   is (.int .i64 ((b.tab + p0) + p1)),
   row 2 1 #[.int .i64 ((b.tab + p0) + p1)] 3])
  ⟨is_k, is_k, row_k, trivial⟩
  ⟨fun f s W j l m q r i => opv rfl rfl (by simp [go_sem, i.e 13 ((q 4 13 rfl rfl).trans k24_13)]) rfl,
  fun f s W j l m q r i => opv rfl rfl (by simp [go_sem, i.e 12 k24_12]) rfl,
  fun f s W j l m q r i => opr rfl rfl (by simp [go_sem, i.e 89 (l 1 rfl)]), trivial⟩ ?_
 intro f25 s25 W25 hB25 g25 hg25
 have fB25 := below_trans fB24 hB25.below
 have z25 := hB25.below.size
 have b25_0 := blk_below b24_0 hB25.below
 have b25_1 := blk_below b24_1 hB25.below
 have q282' := (q271'.below hB25.below (Nat.le_refl _))
 have q283' := (Nat.lt_of_lt_of_le q272' (Below.size hB25.below))
 have q284' := (q273'.below hB25.below (Nat.le_refl _))
 have q285' := (Nat.lt_of_lt_of_le q274' (Below.size hB25.below))
 have q286' := (q275'.below hB25.below (Nat.le_refl _))
 have q287' := (Nat.lt_of_lt_of_le q276' (Below.size hB25.below))
 have q288' := (q277'.below hB25.below (Nat.le_refl _))
 have q289' := (Nat.lt_of_lt_of_le q278' (Below.size hB25.below))
 have q290' := (q279'.below hB25.below (Nat.le_refl _))
 have q291' := (Nat.lt_of_lt_of_le q280' (Below.size hB25.below))
 have q292' := (q281'.below hB25.below)
 obtain ⟨r25_2, br25_2⟩ := hB25.is 2
 have lr25_2 := hB25.lr 2 br25_2
 have k25_1 := kt hg25 1 k24_1
 have k25_2 := kt hg25 2 k24_2
 have k25_5 := kt hg25 5 k24_5
 have k25_6 := kt hg25 6 k24_6
 have k25_7 := kt hg25 7 k24_7
 have k25_9 := kt hg25 9 k24_9
 have k25_10 := kt hg25 10 k24_10
 have k25_12 := kt hg25 12 k24_12
 have k25_14 := kt hg25 14 k24_14
 have k25_85 := kt hg25 85 k24_85
 have k25_88 := kt hg25 88 (hB25.is 0)
 have k25_90 := kt hg25 90 r25_2
 obtain ⟨ga26, ca26, W26, ra26, ow26, ot26, z26, gg26, fB26⟩ := growI_tail 22 (xs := [b.tab, b.tab + p0]) (c := ca20) [b.tab, b.tab + p0, (b.tab + p0) + p1] 2 3 rfl rfl rfl fB25 q292' br25_2 rfl
 refine tail_value2 (o := _) rfl rfl rfl (run_appendOp (fr_ev k25_88) (fr_ev k25_90) ra26) ?_
 have b26_0 := ot26 _ _ (by omega) b25_0
 have b26_1 := ot26 _ _ (by omega) b25_1
 have q293' := (q282'.other ot26 q283' (by omega) z26)
 have q294' := Nat.lt_of_lt_of_le q283' z26
 have q295' := (q284'.other ot26 q285' (by omega) z26)
 have q296' := Nat.lt_of_lt_of_le q285' z26
 have q297' := (q286'.other ot26 q287' (by omega) z26)
 have q298' := Nat.lt_of_lt_of_le q287' z26
 have q299' := (q288'.other ot26 q289' (by omega) z26)
 have q300' := Nat.lt_of_lt_of_le q289' z26
 have q301' := (q290'.other ot26 q291' (by omega) z26)
 have q302' := Nat.lt_of_lt_of_le q291' z26
 generalize hg26 : upd g25 91 (.slice (some ⟨ga26, 0, none⟩) (3) (ca26)) = g26
 have k26_1 := ku hg26 1 k25_1
 have k26_2 := ku hg26 2 k25_2
 have k26_5 := ku hg26 5 k25_5
 have k26_6 := ku hg26 6 k25_6
 have k26_7 := ku hg26 7 k25_7
 have k26_9 := ku hg26 9 k25_9
 have k26_10 := ku hg26 10 k25_10
 have k26_12 := ku hg26 12 k25_12
 have k26_14 := ku hg26 14 k25_14
 have k26_85 := ku hg26 85 k25_85
 have k26_88 := ku hg26 88 k25_88
 have k26_90 := ku hg26 90 k25_90
 have k26_91 := kt hg26 91 (upd_same _ _ _)
 refine tail_value (o := _) rfl rfl rfl (v := .slice (some ⟨ga26, 0, none⟩) (3) (ca26)) (by simp [go_sem, frv 153 k26_91]) ?_
 generalize hg27 : upd g26 13 (.slice (some ⟨ga26, 0, none⟩) (3) (ca26)) = g27
 have k27_1 := ku hg27 1 k26_1
 have k27_2 := ku hg27 2 k26_2
 have k27_5 := ku hg27 5 k26_5
 have k27_6 := ku hg27 6 k26_6
 have k27_7 := ku hg27 7 k26_7
 have k27_9 := ku hg27 9 k26_9
 have k27_10 := ku hg27 10 k26_10
 have k27_12 := ku hg27 12 k26_12
 have k27_14 := ku hg27 14 k26_14
 have k27_85 := ku hg27 85 k26_85
 have k27_88 := ku hg27 88 k26_88
 have k27_90 := ku hg27 90 k26_90
 have k27_91 := ku hg27 91 k26_91
 have k27_13 := kt hg27 13 (upd_same _ _ _)
 refine wpOps_end ?_
 refine hK32 _ _ ?_
 refine region_dk 8 [(92, 0), (93, 1), (94, 2), (95, 3), (96, 4), (97, 5), (98, 6), (12, 7)] [[], [], [1], [], [1, 2, 3], [1, 2, 3, 4], [0, 1, 2, 3, 4, 5], [0, 1, 2, 3, 4, 5, 6]] (rel [is (.int .i64 ((b.tab + p0) + p1)),
   is (.pointer (some ⟨(s1 0), 1, none⟩)),
   is (.slice (a1) (b.panels.length) (c1)),
   is (.int .i64 2),
   is (.pointer (some ⟨q1, o1 + 2, none⟩)),
   is (.int .i64 p2),
   is (.int .i64 (((b.tab + p0) + p1) + p2)),
   is (.int .i64 (((b.tab + p0) + p1) + p2))])
  ⟨is_k, is_k, is_k, is_k, is_k, is_k, is_k, is_k, trivial⟩
  ⟨fun f s W j l m q r i => opv rfl rfl (by simp [go_sem, i.e 12 ((q 7 12 rfl rfl).trans k27_12)]) rfl,
  fun f s W j l m q r i => opv rfl rfl (by simp [go_sem, i.e 1 k27_1]) rfl,
  fun f s W j l m q r i => opv rfl rfl (by simp [go_sem, i.e 93 (l 1 rfl), Joins.cell_of_block (blk_below b26_0 j) 1]) rfl,
  fun f s W j l m q r i => opv rfl rfl (by simp [go_sem, i.e 14 k27_14]) rfl,
  fun f s W j l m q r i => opv rfl rfl (by simp [go_sem, i.e 94 (l 2 rfl), i.e 95 (l 3 rfl), hq1, hl1]) rfl,
  fun f s W j l m q r i => by have t := below_trans fB26 j; have u1_2 : W.cell? ⟨q1, o1 + 2, none⟩ = some (.int .i64 p2) := (t.cell (p := ⟨q1, o1 + 2, none⟩) hql1).trans (by have hq_ := hqc1 2 (by omega); rw [hp2] at hq_; exact hq_); exact opv rfl rfl (by simp [go_sem, i.e 96 (l 4 rfl), u1_2]) rfl,
  fun f s W j l m q r i => opv rfl rfl (by simp [go_sem, i.e 92 (l 0 rfl), i.e 97 (l 5 rfl), IntWalk.i64_in (((b.tab + p0) + p1) + p2) (by omega)]) rfl,
  fun f s W j l m q r i => opv rfl rfl (by simp [go_sem, i.e 98 (l 6 rfl)]) rfl, trivial⟩ ?_
 intro f28 s28 W28 hB28 g28 hg28
 have fB28 := below_trans fB26 hB28.below
 have z28 := hB28.below.size
 have b28_0 := blk_below b26_0 hB28.below
 have b28_1 := blk_below b26_1 hB28.below
 have q303' := (q293'.below hB28.below (Nat.le_refl _))
 have q304' := (Nat.lt_of_lt_of_le q294' (Below.size hB28.below))
 have q305' := (q295'.below hB28.below (Nat.le_refl _))
 have q306' := (Nat.lt_of_lt_of_le q296' (Below.size hB28.below))
 have q307' := (q297'.below hB28.below (Nat.le_refl _))
 have q308' := (Nat.lt_of_lt_of_le q298' (Below.size hB28.below))
 have q309' := (q299'.below hB28.below (Nat.le_refl _))
 have q310' := (Nat.lt_of_lt_of_le q300' (Below.size hB28.below))
 have q311' := (q301'.below hB28.below (Nat.le_refl _))
 have q312' := (Nat.lt_of_lt_of_le q302' (Below.size hB28.below))
 have q313' := (ow26.below hB28.below)
 refine wpOps_end ?_
 have k28_1 := kt hg28 1 k27_1
 have k28_2 := kt hg28 2 k27_2
 have k28_5 := kt hg28 5 k27_5
 have k28_6 := kt hg28 6 k27_6
 have k28_7 := kt hg28 7 k27_7
 have k28_9 := kt hg28 9 k27_9
 have k28_10 := kt hg28 10 k27_10
 have k28_14 := kt hg28 14 k27_14
 have k28_85 := kt hg28 85 k27_85
 have k28_88 := kt hg28 88 k27_88
 have k28_90 := kt hg28 90 k27_90
 have k28_91 := kt hg28 91 k27_91
 have k28_13 := kt hg28 13 k27_13
 have k28_12 := kt hg28 12 (hB28.is 7)
 refine inBlock_normal ?_
 refine hK31 _ _ ?_
 refine region_dk 3 [(86, 0), (87, 1), (14, 2)] [[], [0], [0, 1]] (rel [is (.int .i64 2),
   is (.int .i64 3),
   is (.int .i64 3)])
  ⟨is_k, is_k, is_k, trivial⟩
  ⟨fun f s W j l m q r i => opv rfl rfl (by simp [go_sem, i.e 14 ((q 2 14 rfl rfl).trans k28_14)]) rfl,
  fun f s W j l m q r i => opv rfl rfl (by simp [go_sem, i.e 86 (l 0 rfl), IntWalk.i64_in (3) (by omega)]) rfl,
  fun f s W j l m q r i => opv rfl rfl (by simp [go_sem, i.e 87 (l 1 rfl)]) rfl, trivial⟩ ?_
 intro f29 s29 W29 hB29 g29 hg29
 have fB29 := below_trans fB28 hB29.below
 have z29 := hB29.below.size
 have b29_0 := blk_below b28_0 hB29.below
 have b29_1 := blk_below b28_1 hB29.below
 have q314' := (q303'.below hB29.below (Nat.le_refl _))
 have q315' := (Nat.lt_of_lt_of_le q304' (Below.size hB29.below))
 have q316' := (q305'.below hB29.below (Nat.le_refl _))
 have q317' := (Nat.lt_of_lt_of_le q306' (Below.size hB29.below))
 have q318' := (q307'.below hB29.below (Nat.le_refl _))
 have q319' := (Nat.lt_of_lt_of_le q308' (Below.size hB29.below))
 have q320' := (q309'.below hB29.below (Nat.le_refl _))
 have q321' := (Nat.lt_of_lt_of_le q310' (Below.size hB29.below))
 have q322' := (q311'.below hB29.below (Nat.le_refl _))
 have q323' := (Nat.lt_of_lt_of_le q312' (Below.size hB29.below))
 have q324' := (q313'.below hB29.below)
 refine wpOps_end ?_
 have k29_1 := kt hg29 1 k28_1
 have k29_2 := kt hg29 2 k28_2
 have k29_5 := kt hg29 5 k28_5
 have k29_6 := kt hg29 6 k28_6
 have k29_7 := kt hg29 7 k28_7
 have k29_9 := kt hg29 9 k28_9
 have k29_10 := kt hg29 10 k28_10
 have k29_85 := kt hg29 85 k28_85
 have k29_88 := kt hg29 88 k28_88
 have k29_90 := kt hg29 90 k28_90
 have k29_91 := kt hg29 91 k28_91
 have k29_13 := kt hg29 13 k28_13
 have k29_12 := kt hg29 12 k28_12
 have k29_14 := kt hg29 14 (hB29.is 2)
 refine then_normal ?_
 rw [rounds_succ]
 refine wp_seq_k fun K33 hK33 => ?_
 refine wp_seq_k fun K34 hK34 => ?_
 refine region_dk 2 [(84, 0), (85, 1)] [[], [0]] (rel [is (.int .i64 3),
   is (.bool true)])
  ⟨is_k, is_k, trivial⟩
  ⟨fun f s W j l m q r i => opv rfl rfl (by simp [go_sem, i.e 14 k29_14]) rfl,
  fun f s W j l m q r i => opv rfl rfl (by simp [go_sem, i.e 84 (l 0 rfl)]) rfl, trivial⟩ ?_
 intro f30 s30 W30 hB30 g30 hg30
 have fB30 := below_trans fB29 hB30.below
 have z30 := hB30.below.size
 have b30_0 := blk_below b29_0 hB30.below
 have b30_1 := blk_below b29_1 hB30.below
 have q325' := (q314'.below hB30.below (Nat.le_refl _))
 have q326' := (Nat.lt_of_lt_of_le q315' (Below.size hB30.below))
 have q327' := (q316'.below hB30.below (Nat.le_refl _))
 have q328' := (Nat.lt_of_lt_of_le q317' (Below.size hB30.below))
 have q329' := (q318'.below hB30.below (Nat.le_refl _))
 have q330' := (Nat.lt_of_lt_of_le q319' (Below.size hB30.below))
 have q331' := (q320'.below hB30.below (Nat.le_refl _))
 have q332' := (Nat.lt_of_lt_of_le q321' (Below.size hB30.below))
 have q333' := (q322'.below hB30.below (Nat.le_refl _))
 have q334' := (Nat.lt_of_lt_of_le q323' (Below.size hB30.below))
 have q335' := (q324'.below hB30.below)
 refine hK34 _ _ ?_
 have k30_1 := kt hg30 1 k29_1
 have k30_2 := kt hg30 2 k29_2
 have k30_5 := kt hg30 5 k29_5
 have k30_6 := kt hg30 6 k29_6
 have k30_7 := kt hg30 7 k29_7
 have k30_9 := kt hg30 9 k29_9
 have k30_10 := kt hg30 10 k29_10
 have k30_88 := kt hg30 88 k29_88
 have k30_90 := kt hg30 90 k29_90
 have k30_91 := kt hg30 91 k29_91
 have k30_13 := kt hg30 13 k29_13
 have k30_12 := kt hg30 12 k29_12
 have k30_14 := kt hg30 14 k29_14
 have k30_85 := kt hg30 85 (hB30.is 1)
 refine wp_cond_true ((fr_eval rfl).trans k30_85) ?_
 refine wp_skip ?_
 refine hK33 _ _ ?_
 refine wp_seq_k fun K36 hK36 => ?_
 refine wp_block ?_
 refine wp_seq_k fun K37 hK37 => ?_
 refine region_dk 3 [(88, 0), (89, 1), (90, 2), (91, 3), (13, 4)] [[], [], [1], [0, 1, 2], [0, 1, 2, 3]] (rel [is (.slice (some ⟨ga26, 0, none⟩) (3) (ca26)),
   is (.int .i64 (((b.tab + p0) + p1) + p2)),
   row 2 1 #[.int .i64 (((b.tab + p0) + p1) + p2)] 3])
  ⟨is_k, is_k, row_k, trivial⟩
  ⟨fun f s W j l m q r i => opv rfl rfl (by simp [go_sem, i.e 13 ((q 4 13 rfl rfl).trans k30_13)]) rfl,
  fun f s W j l m q r i => opv rfl rfl (by simp [go_sem, i.e 12 k30_12]) rfl,
  fun f s W j l m q r i => opr rfl rfl (by simp [go_sem, i.e 89 (l 1 rfl)]), trivial⟩ ?_
 intro f31 s31 W31 hB31 g31 hg31
 have fB31 := below_trans fB30 hB31.below
 have z31 := hB31.below.size
 have b31_0 := blk_below b30_0 hB31.below
 have b31_1 := blk_below b30_1 hB31.below
 have q336' := (q325'.below hB31.below (Nat.le_refl _))
 have q337' := (Nat.lt_of_lt_of_le q326' (Below.size hB31.below))
 have q338' := (q327'.below hB31.below (Nat.le_refl _))
 have q339' := (Nat.lt_of_lt_of_le q328' (Below.size hB31.below))
 have q340' := (q329'.below hB31.below (Nat.le_refl _))
 have q341' := (Nat.lt_of_lt_of_le q330' (Below.size hB31.below))
 have q342' := (q331'.below hB31.below (Nat.le_refl _))
 have q343' := (Nat.lt_of_lt_of_le q332' (Below.size hB31.below))
 have q344' := (q333'.below hB31.below (Nat.le_refl _))
 have q345' := (Nat.lt_of_lt_of_le q334' (Below.size hB31.below))
 have q346' := (q335'.below hB31.below)
 obtain ⟨r31_2, br31_2⟩ := hB31.is 2
 have lr31_2 := hB31.lr 2 br31_2
 have k31_1 := kt hg31 1 k30_1
 have k31_2 := kt hg31 2 k30_2
 have k31_5 := kt hg31 5 k30_5
 have k31_6 := kt hg31 6 k30_6
 have k31_7 := kt hg31 7 k30_7
 have k31_9 := kt hg31 9 k30_9
 have k31_10 := kt hg31 10 k30_10
 have k31_12 := kt hg31 12 k30_12
 have k31_14 := kt hg31 14 k30_14
 have k31_85 := kt hg31 85 k30_85
 have k31_88 := kt hg31 88 (hB31.is 0)
 have k31_90 := kt hg31 90 r31_2
 obtain ⟨ga32, ca32, W32, ra32, ow32, ot32, z32, gg32, fB32⟩ := growI_tail 22 (xs := [b.tab, b.tab + p0, (b.tab + p0) + p1]) (c := ca26) [b.tab, b.tab + p0, (b.tab + p0) + p1, ((b.tab + p0) + p1) + p2] 3 4 rfl rfl rfl fB31 q346' br31_2 rfl
 refine tail_value2 (o := _) rfl rfl rfl (run_appendOp (fr_ev k31_88) (fr_ev k31_90) ra32) ?_
 have b32_0 := ot32 _ _ (by omega) b31_0
 have b32_1 := ot32 _ _ (by omega) b31_1
 have q347' := (q336'.other ot32 q337' (by omega) z32)
 have q348' := Nat.lt_of_lt_of_le q337' z32
 have q349' := (q338'.other ot32 q339' (by omega) z32)
 have q350' := Nat.lt_of_lt_of_le q339' z32
 have q351' := (q340'.other ot32 q341' (by omega) z32)
 have q352' := Nat.lt_of_lt_of_le q341' z32
 have q353' := (q342'.other ot32 q343' (by omega) z32)
 have q354' := Nat.lt_of_lt_of_le q343' z32
 have q355' := (q344'.other ot32 q345' (by omega) z32)
 have q356' := Nat.lt_of_lt_of_le q345' z32
 generalize hg32 : upd g31 91 (.slice (some ⟨ga32, 0, none⟩) (4) (ca32)) = g32
 have k32_1 := ku hg32 1 k31_1
 have k32_2 := ku hg32 2 k31_2
 have k32_5 := ku hg32 5 k31_5
 have k32_6 := ku hg32 6 k31_6
 have k32_7 := ku hg32 7 k31_7
 have k32_9 := ku hg32 9 k31_9
 have k32_10 := ku hg32 10 k31_10
 have k32_12 := ku hg32 12 k31_12
 have k32_14 := ku hg32 14 k31_14
 have k32_85 := ku hg32 85 k31_85
 have k32_88 := ku hg32 88 k31_88
 have k32_90 := ku hg32 90 k31_90
 have k32_91 := kt hg32 91 (upd_same _ _ _)
 refine tail_value (o := _) rfl rfl rfl (v := .slice (some ⟨ga32, 0, none⟩) (4) (ca32)) (by simp [go_sem, frv 153 k32_91]) ?_
 generalize hg33 : upd g32 13 (.slice (some ⟨ga32, 0, none⟩) (4) (ca32)) = g33
 have k33_1 := ku hg33 1 k32_1
 have k33_2 := ku hg33 2 k32_2
 have k33_5 := ku hg33 5 k32_5
 have k33_6 := ku hg33 6 k32_6
 have k33_7 := ku hg33 7 k32_7
 have k33_9 := ku hg33 9 k32_9
 have k33_10 := ku hg33 10 k32_10
 have k33_12 := ku hg33 12 k32_12
 have k33_14 := ku hg33 14 k32_14
 have k33_85 := ku hg33 85 k32_85
 have k33_88 := ku hg33 88 k32_88
 have k33_90 := ku hg33 90 k32_90
 have k33_91 := ku hg33 91 k32_91
 have k33_13 := kt hg33 13 (upd_same _ _ _)
 refine wpOps_end ?_
 refine hK37 _ _ ?_
 refine region_dk 8 [(92, 0), (93, 1), (94, 2), (95, 3), (96, 4), (97, 5), (98, 6), (12, 7)] [[], [], [1], [], [1, 2, 3], [1, 2, 3, 4], [0, 1, 2, 3, 4, 5], [0, 1, 2, 3, 4, 5, 6]] (rel [is (.int .i64 (((b.tab + p0) + p1) + p2)),
   is (.pointer (some ⟨(s1 0), 1, none⟩)),
   is (.slice (a1) (b.panels.length) (c1)),
   is (.int .i64 3),
   is (.pointer (some ⟨q1, o1 + 3, none⟩)),
   is (.int .i64 p3),
   is (.int .i64 ((((b.tab + p0) + p1) + p2) + p3)),
   is (.int .i64 ((((b.tab + p0) + p1) + p2) + p3))])
  ⟨is_k, is_k, is_k, is_k, is_k, is_k, is_k, is_k, trivial⟩
  ⟨fun f s W j l m q r i => opv rfl rfl (by simp [go_sem, i.e 12 ((q 7 12 rfl rfl).trans k33_12)]) rfl,
  fun f s W j l m q r i => opv rfl rfl (by simp [go_sem, i.e 1 k33_1]) rfl,
  fun f s W j l m q r i => opv rfl rfl (by simp [go_sem, i.e 93 (l 1 rfl), Joins.cell_of_block (blk_below b32_0 j) 1]) rfl,
  fun f s W j l m q r i => opv rfl rfl (by simp [go_sem, i.e 14 k33_14]) rfl,
  fun f s W j l m q r i => opv rfl rfl (by simp [go_sem, i.e 94 (l 2 rfl), i.e 95 (l 3 rfl), hq1, hl1]) rfl,
  fun f s W j l m q r i => by have t := below_trans fB32 j; have u1_3 : W.cell? ⟨q1, o1 + 3, none⟩ = some (.int .i64 p3) := (t.cell (p := ⟨q1, o1 + 3, none⟩) hql1).trans (by have hq_ := hqc1 3 (by omega); rw [hp3] at hq_; exact hq_); exact opv rfl rfl (by simp [go_sem, i.e 96 (l 4 rfl), u1_3]) rfl,
  fun f s W j l m q r i => opv rfl rfl (by simp [go_sem, i.e 92 (l 0 rfl), i.e 97 (l 5 rfl), IntWalk.i64_in ((((b.tab + p0) + p1) + p2) + p3) (by omega)]) rfl,
  fun f s W j l m q r i => opv rfl rfl (by simp [go_sem, i.e 98 (l 6 rfl)]) rfl, trivial⟩ ?_
 intro f34 s34 W34 hB34 g34 hg34
 have fB34 := below_trans fB32 hB34.below
 have z34 := hB34.below.size
 have b34_0 := blk_below b32_0 hB34.below
 have b34_1 := blk_below b32_1 hB34.below
 have q357' := (q347'.below hB34.below (Nat.le_refl _))
 have q358' := (Nat.lt_of_lt_of_le q348' (Below.size hB34.below))
 have q359' := (q349'.below hB34.below (Nat.le_refl _))
 have q360' := (Nat.lt_of_lt_of_le q350' (Below.size hB34.below))
 have q361' := (q351'.below hB34.below (Nat.le_refl _))
 have q362' := (Nat.lt_of_lt_of_le q352' (Below.size hB34.below))
 have q363' := (q353'.below hB34.below (Nat.le_refl _))
 have q364' := (Nat.lt_of_lt_of_le q354' (Below.size hB34.below))
 have q365' := (q355'.below hB34.below (Nat.le_refl _))
 have q366' := (Nat.lt_of_lt_of_le q356' (Below.size hB34.below))
 have q367' := (ow32.below hB34.below)
 refine wpOps_end ?_
 have k34_1 := kt hg34 1 k33_1
 have k34_2 := kt hg34 2 k33_2
 have k34_5 := kt hg34 5 k33_5
 have k34_6 := kt hg34 6 k33_6
 have k34_7 := kt hg34 7 k33_7
 have k34_9 := kt hg34 9 k33_9
 have k34_10 := kt hg34 10 k33_10
 have k34_14 := kt hg34 14 k33_14
 have k34_85 := kt hg34 85 k33_85
 have k34_88 := kt hg34 88 k33_88
 have k34_90 := kt hg34 90 k33_90
 have k34_91 := kt hg34 91 k33_91
 have k34_13 := kt hg34 13 k33_13
 have k34_12 := kt hg34 12 (hB34.is 7)
 refine inBlock_normal ?_
 refine hK36 _ _ ?_
 refine region_dk 3 [(86, 0), (87, 1), (14, 2)] [[], [0], [0, 1]] (rel [is (.int .i64 3),
   is (.int .i64 4),
   is (.int .i64 4)])
  ⟨is_k, is_k, is_k, trivial⟩
  ⟨fun f s W j l m q r i => opv rfl rfl (by simp [go_sem, i.e 14 ((q 2 14 rfl rfl).trans k34_14)]) rfl,
  fun f s W j l m q r i => opv rfl rfl (by simp [go_sem, i.e 86 (l 0 rfl), IntWalk.i64_in (4) (by omega)]) rfl,
  fun f s W j l m q r i => opv rfl rfl (by simp [go_sem, i.e 87 (l 1 rfl)]) rfl, trivial⟩ ?_
 intro f35 s35 W35 hB35 g35 hg35
 have fB35 := below_trans fB34 hB35.below
 have z35 := hB35.below.size
 have b35_0 := blk_below b34_0 hB35.below
 have b35_1 := blk_below b34_1 hB35.below
 have q368' := (q357'.below hB35.below (Nat.le_refl _))
 have q369' := (Nat.lt_of_lt_of_le q358' (Below.size hB35.below))
 have q370' := (q359'.below hB35.below (Nat.le_refl _))
 have q371' := (Nat.lt_of_lt_of_le q360' (Below.size hB35.below))
 have q372' := (q361'.below hB35.below (Nat.le_refl _))
 have q373' := (Nat.lt_of_lt_of_le q362' (Below.size hB35.below))
 have q374' := (q363'.below hB35.below (Nat.le_refl _))
 have q375' := (Nat.lt_of_lt_of_le q364' (Below.size hB35.below))
 have q376' := (q365'.below hB35.below (Nat.le_refl _))
 have q377' := (Nat.lt_of_lt_of_le q366' (Below.size hB35.below))
 have q378' := (q367'.below hB35.below)
 refine wpOps_end ?_
 have k35_1 := kt hg35 1 k34_1
 have k35_2 := kt hg35 2 k34_2
 have k35_5 := kt hg35 5 k34_5
 have k35_6 := kt hg35 6 k34_6
 have k35_7 := kt hg35 7 k34_7
 have k35_9 := kt hg35 9 k34_9
 have k35_10 := kt hg35 10 k34_10
 have k35_85 := kt hg35 85 k34_85
 have k35_88 := kt hg35 88 k34_88
 have k35_90 := kt hg35 90 k34_90
 have k35_91 := kt hg35 91 k34_91
 have k35_13 := kt hg35 13 k34_13
 have k35_12 := kt hg35 12 k34_12
 have k35_14 := kt hg35 14 (hB35.is 2)
 refine then_normal ?_
 rw [rounds_succ]
 refine wp_seq_k fun K38 hK38 => ?_
 refine wp_seq_k fun K39 hK39 => ?_
 refine region_dk 2 [(84, 0), (85, 1)] [[], [0]] (rel [is (.int .i64 4),
   is (.bool false)])
  ⟨is_k, is_k, trivial⟩
  ⟨fun f s W j l m q r i => opv rfl rfl (by simp [go_sem, i.e 14 k35_14]) rfl,
  fun f s W j l m q r i => opv rfl rfl (by simp [go_sem, i.e 84 (l 0 rfl)]) rfl, trivial⟩ ?_
 intro f36 s36 W36 hB36 g36 hg36
 have fB36 := below_trans fB35 hB36.below
 have z36 := hB36.below.size
 have b36_0 := blk_below b35_0 hB36.below
 have b36_1 := blk_below b35_1 hB36.below
 have q379' := (q368'.below hB36.below (Nat.le_refl _))
 have q380' := (Nat.lt_of_lt_of_le q369' (Below.size hB36.below))
 have q381' := (q370'.below hB36.below (Nat.le_refl _))
 have q382' := (Nat.lt_of_lt_of_le q371' (Below.size hB36.below))
 have q383' := (q372'.below hB36.below (Nat.le_refl _))
 have q384' := (Nat.lt_of_lt_of_le q373' (Below.size hB36.below))
 have q385' := (q374'.below hB36.below (Nat.le_refl _))
 have q386' := (Nat.lt_of_lt_of_le q375' (Below.size hB36.below))
 have q387' := (q376'.below hB36.below (Nat.le_refl _))
 have q388' := (Nat.lt_of_lt_of_le q377' (Below.size hB36.below))
 have q389' := (q378'.below hB36.below)
 refine hK39 _ _ ?_
 have k36_1 := kt hg36 1 k35_1
 have k36_2 := kt hg36 2 k35_2
 have k36_5 := kt hg36 5 k35_5
 have k36_6 := kt hg36 6 k35_6
 have k36_7 := kt hg36 7 k35_7
 have k36_9 := kt hg36 9 k35_9
 have k36_10 := kt hg36 10 k35_10
 have k36_88 := kt hg36 88 k35_88
 have k36_90 := kt hg36 90 k35_90
 have k36_91 := kt hg36 91 k35_91
 have k36_13 := kt hg36 13 k35_13
 have k36_12 := kt hg36 12 k35_12
 have k36_14 := kt hg36 14 k35_14
 have k36_85 := kt hg36 85 (hB36.is 1)
 refine wp_cond_false ((fr_eval rfl).trans k36_85) ?_
 refine wp_exit ?_
 refine then_exit ?_
 refine then_exit ?_
 refine inBlock_at ?_
 refine hK16 _ _ ?_
 refine wp_seq_k fun K41 hK41 => ?_
 refine region_dk 10 [(99, 0), (100, 1), (101, 2), (102, 3), (103, 4), (104, 5), (105, 6), (106, 7), (107, 8), (15, 9)] [[], [0], [0, 1], [0, 1, 2], [], [4], [4, 5], [4, 5, 6], [0, 1, 2, 3, 4, 5, 6, 7], [0, 1, 2, 3, 4, 5, 6, 7, 8]] (rel [is (.pointer (some ⟨(s1 0), 3, none⟩)),
   is (.slice (a2) (b.top.length) (c2)),
   is (.pointer (some ⟨q2, o2, none⟩)),
   is (.int .i64 t0),
   is (.pointer (some ⟨(s1 0), 3, none⟩)),
   is (.slice (a2) (b.top.length) (c2)),
   is (.pointer (some ⟨q2, o2 + 1, none⟩)),
   is (.int .i64 t1),
   is (.int .i64 (max t0 t1)),
   is (.int .i64 (max t0 t1))])
  ⟨is_k, is_k, is_k, is_k, is_k, is_k, is_k, is_k, is_k, is_k, trivial⟩
  ⟨fun f s W j l m q r i => opv rfl rfl (by simp [go_sem, i.e 1 k36_1]) rfl,
  fun f s W j l m q r i => opv rfl rfl (by simp [go_sem, i.e 99 (l 0 rfl), Joins.cell_of_block (blk_below b36_0 j) 3]) rfl,
  fun f s W j l m q r i => opv rfl rfl (by simp [go_sem, i.e 100 (l 1 rfl), hq2, hl2]) rfl,
  fun f s W j l m q r i => by have t := below_trans fB36 j; have u2_0 : W.cell? ⟨q2, o2, none⟩ = some (.int .i64 t0) := (t.cell (p := ⟨q2, o2, none⟩) hql2).trans (by have hq_ := hqc2 0 (by omega); rw [ht0] at hq_; exact hq_); exact opv rfl rfl (by simp [go_sem, i.e 101 (l 2 rfl), u2_0]) rfl,
  fun f s W j l m q r i => opv rfl rfl (by simp [go_sem, i.e 1 k36_1]) rfl,
  fun f s W j l m q r i => opv rfl rfl (by simp [go_sem, i.e 103 (l 4 rfl), Joins.cell_of_block (blk_below b36_0 j) 3]) rfl,
  fun f s W j l m q r i => opv rfl rfl (by simp [go_sem, i.e 104 (l 5 rfl), hq2, hl2]) rfl,
  fun f s W j l m q r i => by have t := below_trans fB36 j; have u2_1 : W.cell? ⟨q2, o2 + 1, none⟩ = some (.int .i64 t1) := (t.cell (p := ⟨q2, o2 + 1, none⟩) hql2).trans (by have hq_ := hqc2 1 (by omega); rw [ht1] at hq_; exact hq_); exact opv rfl rfl (by simp [go_sem, i.e 105 (l 6 rfl), u2_1]) rfl,
  fun f s W j l m q r i => opv rfl rfl (by simp [go_sem, i.e 102 (l 3 rfl), i.e 106 (l 7 rfl)]) rfl,
  fun f s W j l m q r i => opv rfl rfl (by simp [go_sem, i.e 107 (l 8 rfl)]) rfl, trivial⟩ ?_
 intro f37 s37 W37 hB37 g37 hg37
 have fB37 := below_trans fB36 hB37.below
 have z37 := hB37.below.size
 have b37_0 := blk_below b36_0 hB37.below
 have b37_1 := blk_below b36_1 hB37.below
 have q390' := (q379'.below hB37.below (Nat.le_refl _))
 have q391' := (Nat.lt_of_lt_of_le q380' (Below.size hB37.below))
 have q392' := (q381'.below hB37.below (Nat.le_refl _))
 have q393' := (Nat.lt_of_lt_of_le q382' (Below.size hB37.below))
 have q394' := (q383'.below hB37.below (Nat.le_refl _))
 have q395' := (Nat.lt_of_lt_of_le q384' (Below.size hB37.below))
 have q396' := (q385'.below hB37.below (Nat.le_refl _))
 have q397' := (Nat.lt_of_lt_of_le q386' (Below.size hB37.below))
 have q398' := (q387'.below hB37.below (Nat.le_refl _))
 have q399' := (Nat.lt_of_lt_of_le q388' (Below.size hB37.below))
 have q400' := (q389'.below hB37.below)
 refine hK41 _ _ ?_
 have k37_1 := kt hg37 1 k36_1
 have k37_2 := kt hg37 2 k36_2
 have k37_5 := kt hg37 5 k36_5
 have k37_6 := kt hg37 6 k36_6
 have k37_7 := kt hg37 7 k36_7
 have k37_9 := kt hg37 9 k36_9
 have k37_10 := kt hg37 10 k36_10
 have k37_13 := kt hg37 13 k36_13
 have k37_12 := kt hg37 12 k36_12
 have k37_15 := kt hg37 15 (hB37.is 9)
 refine wp_seq_k fun K42 hK42 => ?_
 refine region_dk 5 [(108, 0), (109, 1), (110, 2), (111, 3), (16, 4)] [[], [], [1], [0, 1, 2], [0, 1, 2, 3]] (rel [is (.int .i64 (max t0 t1)),
   is (.pointer (some ⟨(s1 0), 2, none⟩)),
   is (.int .i64 b.height),
   is (.int .i64 ((max t0 t1) + b.height)),
   is (.int .i64 ((max t0 t1) + b.height))])
  ⟨is_k, is_k, is_k, is_k, is_k, trivial⟩
  ⟨fun f s W j l m q r i => opv rfl rfl (by simp [go_sem, i.e 15 k37_15]) rfl,
  fun f s W j l m q r i => opv rfl rfl (by simp [go_sem, i.e 1 k37_1]) rfl,
  fun f s W j l m q r i => opv rfl rfl (by simp [go_sem, i.e 109 (l 1 rfl), Joins.cell_of_block (blk_below b37_0 j) 2]) rfl,
  fun f s W j l m q r i => opv rfl rfl (by simp [go_sem, i.e 108 (l 0 rfl), i.e 110 (l 2 rfl), IntWalk.i64_in ((max t0 t1) + b.height) (by omega)]) rfl,
  fun f s W j l m q r i => opv rfl rfl (by simp [go_sem, i.e 111 (l 3 rfl)]) rfl, trivial⟩ ?_
 intro f38 s38 W38 hB38 g38 hg38
 have fB38 := below_trans fB37 hB38.below
 have z38 := hB38.below.size
 have b38_0 := blk_below b37_0 hB38.below
 have b38_1 := blk_below b37_1 hB38.below
 have q401' := (q390'.below hB38.below (Nat.le_refl _))
 have q402' := (Nat.lt_of_lt_of_le q391' (Below.size hB38.below))
 have q403' := (q392'.below hB38.below (Nat.le_refl _))
 have q404' := (Nat.lt_of_lt_of_le q393' (Below.size hB38.below))
 have q405' := (q394'.below hB38.below (Nat.le_refl _))
 have q406' := (Nat.lt_of_lt_of_le q395' (Below.size hB38.below))
 have q407' := (q396'.below hB38.below (Nat.le_refl _))
 have q408' := (Nat.lt_of_lt_of_le q397' (Below.size hB38.below))
 have q409' := (q398'.below hB38.below (Nat.le_refl _))
 have q410' := (Nat.lt_of_lt_of_le q399' (Below.size hB38.below))
 have q411' := (q400'.below hB38.below)
 refine hK42 _ _ ?_
 have k38_1 := kt hg38 1 k37_1
 have k38_2 := kt hg38 2 k37_2
 have k38_5 := kt hg38 5 k37_5
 have k38_6 := kt hg38 6 k37_6
 have k38_7 := kt hg38 7 k37_7
 have k38_9 := kt hg38 9 k37_9
 have k38_10 := kt hg38 10 k37_10
 have k38_13 := kt hg38 13 k37_13
 have k38_12 := kt hg38 12 k37_12
 have k38_15 := kt hg38 15 k37_15
 have k38_16 := kt hg38 16 (hB38.is 4)
 refine wp_seq_k fun K43 hK43 => ?_
 refine region_dk 12 [(112, 0), (113, 1), (114, 2), (115, 3), (116, 4), (117, 5), (118, 6), (119, 7), (120, 8), (121, 9), (122, 10), (17, 11)] [[], [], [1], [1, 2], [1, 2, 3], [], [5], [5, 6], [5, 6, 7], [1, 2, 3, 4, 5, 6, 7, 8], [0, 1, 2, 3, 4, 5, 6, 7, 8, 9], [0, 1, 2, 3, 4, 5, 6, 7, 8, 9, 10]] (rel [is (.int .i64 ((max t0 t1) + b.height)),
   is (.pointer (some ⟨(s1 0), 4, none⟩)),
   is (.slice (a3) (b.bottom.length) (c3)),
   is (.pointer (some ⟨q3, o3, none⟩)),
   is (.int .i64 u0),
   is (.pointer (some ⟨(s1 0), 4, none⟩)),
   is (.slice (a3) (b.bottom.length) (c3)),
   is (.pointer (some ⟨q3, o3 + 1, none⟩)),
   is (.int .i64 u1),
   is (.int .i64 (max u0 u1)),
   is (.int .i64 (((max t0 t1) + b.height) + (max u0 u1))),
   is (.int .i64 (((max t0 t1) + b.height) + (max u0 u1)))])
  ⟨is_k, is_k, is_k, is_k, is_k, is_k, is_k, is_k, is_k, is_k, is_k, is_k, trivial⟩
  ⟨fun f s W j l m q r i => opv rfl rfl (by simp [go_sem, i.e 16 k38_16]) rfl,
  fun f s W j l m q r i => opv rfl rfl (by simp [go_sem, i.e 1 k38_1]) rfl,
  fun f s W j l m q r i => opv rfl rfl (by simp [go_sem, i.e 113 (l 1 rfl), Joins.cell_of_block (blk_below b38_0 j) 4]) rfl,
  fun f s W j l m q r i => opv rfl rfl (by simp [go_sem, i.e 114 (l 2 rfl), hq3, hl3]) rfl,
  fun f s W j l m q r i => by have t := below_trans fB38 j; have u3_0 : W.cell? ⟨q3, o3, none⟩ = some (.int .i64 u0) := (t.cell (p := ⟨q3, o3, none⟩) hql3).trans (by have hq_ := hqc3 0 (by omega); rw [hu0] at hq_; exact hq_); exact opv rfl rfl (by simp [go_sem, i.e 115 (l 3 rfl), u3_0]) rfl,
  fun f s W j l m q r i => opv rfl rfl (by simp [go_sem, i.e 1 k38_1]) rfl,
  fun f s W j l m q r i => opv rfl rfl (by simp [go_sem, i.e 117 (l 5 rfl), Joins.cell_of_block (blk_below b38_0 j) 4]) rfl,
  fun f s W j l m q r i => opv rfl rfl (by simp [go_sem, i.e 118 (l 6 rfl), hq3, hl3]) rfl,
  fun f s W j l m q r i => by have t := below_trans fB38 j; have u3_1 : W.cell? ⟨q3, o3 + 1, none⟩ = some (.int .i64 u1) := (t.cell (p := ⟨q3, o3 + 1, none⟩) hql3).trans (by have hq_ := hqc3 1 (by omega); rw [hu1] at hq_; exact hq_); exact opv rfl rfl (by simp [go_sem, i.e 119 (l 7 rfl), u3_1]) rfl,
  fun f s W j l m q r i => opv rfl rfl (by simp [go_sem, i.e 116 (l 4 rfl), i.e 120 (l 8 rfl)]) rfl,
  fun f s W j l m q r i => opv rfl rfl (by simp [go_sem, i.e 112 (l 0 rfl), i.e 121 (l 9 rfl), IntWalk.i64_in (((max t0 t1) + b.height) + (max u0 u1)) (by omega)]) rfl,
  fun f s W j l m q r i => opv rfl rfl (by simp [go_sem, i.e 122 (l 10 rfl)]) rfl, trivial⟩ ?_
 intro f39 s39 W39 hB39 g39 hg39
 have fB39 := below_trans fB38 hB39.below
 have z39 := hB39.below.size
 have b39_0 := blk_below b38_0 hB39.below
 have b39_1 := blk_below b38_1 hB39.below
 have q412' := (q401'.below hB39.below (Nat.le_refl _))
 have q413' := (Nat.lt_of_lt_of_le q402' (Below.size hB39.below))
 have q414' := (q403'.below hB39.below (Nat.le_refl _))
 have q415' := (Nat.lt_of_lt_of_le q404' (Below.size hB39.below))
 have q416' := (q405'.below hB39.below (Nat.le_refl _))
 have q417' := (Nat.lt_of_lt_of_le q406' (Below.size hB39.below))
 have q418' := (q407'.below hB39.below (Nat.le_refl _))
 have q419' := (Nat.lt_of_lt_of_le q408' (Below.size hB39.below))
 have q420' := (q409'.below hB39.below (Nat.le_refl _))
 have q421' := (Nat.lt_of_lt_of_le q410' (Below.size hB39.below))
 have q422' := (q411'.below hB39.below)
 refine hK43 _ _ ?_
 have k39_2 := kt hg39 2 k38_2
 have k39_5 := kt hg39 5 k38_5
 have k39_6 := kt hg39 6 k38_6
 have k39_7 := kt hg39 7 k38_7
 have k39_9 := kt hg39 9 k38_9
 have k39_10 := kt hg39 10 k38_10
 have k39_13 := kt hg39 13 k38_13
 have k39_12 := kt hg39 12 k38_12
 have k39_15 := kt hg39 15 k38_15
 have k39_16 := kt hg39 16 k38_16
 have k39_17 := kt hg39 17 (hB39.is 11)
 refine wp_seq_k fun K44 hK44 => ?_
 refine region_dk 31 [(123, 0), (124, 1), (125, 2), (126, 3), (127, 4), (128, 5), (129, 6), (130, 7), (131, 8), (132, 9), (133, 10), (134, 11), (135, 12), (136, 13), (137, 14), (138, 15), (139, 16), (140, 17), (141, 18), (142, 19), (143, 20), (144, 21), (145, 22), (146, 23), (147, 24), (148, 25), (149, 26), (150, 27), (151, 28), (152, 29), (2, 30)] [[], [], [0, 1], [0, 1, 2], [0, 1, 2, 3], [0, 1, 2, 3], [0, 1, 2, 3, 4, 5], [0, 1, 2, 3, 4, 5, 6], [0, 1, 2, 3, 4, 5, 6, 7], [0, 1, 2, 3, 4, 5, 6, 7, 8], [0, 1, 2, 3, 4, 5, 6, 7, 8], [0, 1, 2, 3, 4, 5, 6, 7, 8], [0, 1, 2, 3, 4, 5, 6, 7, 8, 10, 11], [0, 1, 2, 3, 4, 5, 6, 7, 8, 9, 10, 11, 12], [0, 1, 2, 3, 4, 5, 6, 7, 8, 9, 10, 11, 12, 13], [0, 1, 2, 3, 4, 5, 6, 7, 8, 9, 10, 11, 12, 13, 14], [0, 1, 2, 3, 4, 5, 6, 7, 8, 9, 10, 11, 12, 13, 14, 15], [0, 1, 2, 3, 4, 5, 6, 7, 8, 9, 10, 11, 12, 13, 14, 15], [0, 1, 2, 3, 4, 5, 6, 7, 8, 9, 10, 11, 12, 13, 14, 15, 16, 17], [0, 1, 2, 3, 4, 5, 6, 7, 8, 9, 10, 11, 12, 13, 14, 15, 16, 17, 18], [0, 1, 2, 3, 4, 5, 6, 7, 8, 9, 10, 11, 12, 13, 14, 15, 16, 17, 18, 19], [0, 1, 2, 3, 4, 5, 6, 7, 8, 9, 10, 11, 12, 13, 14, 15, 16, 17, 18, 19, 20], [0, 1, 2, 3, 4, 5, 6, 7, 8, 9, 10, 11, 12, 13, 14, 15, 16, 17, 18, 19, 20], [0, 1, 2, 3, 4, 5, 6, 7, 8, 9, 10, 11, 12, 13, 14, 15, 16, 17, 18, 19, 20], [0, 1, 2, 3, 4, 5, 6, 7, 8, 9, 10, 11, 12, 13, 14, 15, 16, 17, 18, 19, 20, 22, 23], [0, 1, 2, 3, 4, 5, 6, 7, 8, 9, 10, 11, 12, 13, 14, 15, 16, 17, 18, 19, 20, 21, 22, 23, 24], [0, 1, 2, 3, 4, 5, 6, 7, 8, 9, 10, 11, 12, 13, 14, 15, 16, 17, 18, 19, 20, 21, 22, 23, 24, 25], [0, 1, 2, 3, 4, 5, 6, 7, 8, 9, 10, 11, 12, 13, 14, 15, 16, 17, 18, 19, 20, 21, 22, 23, 24, 25, 26], [0, 1, 2, 3, 4, 5, 6, 7, 8, 9, 10, 11, 12, 13, 14, 15, 16, 17, 18, 19, 20, 21, 22, 23, 24, 25, 26, 27], [0, 1, 2, 3, 4, 5, 6, 7, 8, 9, 10, 11, 12, 13, 14, 15, 16, 17, 18, 19, 20, 21, 22, 23, 24, 25, 26, 27, 28], [0, 1, 2, 3, 4, 5, 6, 7, 8, 9, 10, 11, 12, 13, 14, 15, 16, 17, 18, 19, 20, 21, 22, 23, 24, 25, 26, 27, 28, 29]] (rel [is (.int .i64 ((((b.tab + p0) + p1) + p2) + p3)),
   is (.int .i64 ((((b.tab + p0) + p1) + p2) + p3)),
   is (.bool true),
   is (.bool true),
   gd (true) true (is (.int .i64 (((max t0 t1) + b.height) + (max u0 u1)))),
   gd (true) true (is (.int .i64 (((max t0 t1) + b.height) + (max u0 u1)))),
   gd (true) true (is (.bool true)),
   is (.bool true),
   is (.bool true),
   gd (true) true (is (.int .i64 (((((b.tab + p0) + p1) + p2) + p3) * (((max t0 t1) + b.height) + (max u0 u1))))),
   gd (true) true (is (.int .i64 ((((b.tab + p0) + p1) + p2) + p3))),
   gd (true) true (is (.int .i64 (((max t0 t1) + b.height) + (max u0 u1)))),
   gd (true) true (is (.int .i64 (((((b.tab + p0) + p1) + p2) + p3) * (((max t0 t1) + b.height) + (max u0 u1))))),
   gd (true) true (is (.bool true)),
   is (.bool true),
   is (.bool true),
   gd (true) true (is (.slice (some ⟨a115', o116', none⟩) (4) (c117'))),
   gd (true) true (is (.slice (some ⟨ga32, 0, none⟩) (4) (ca32))),
   gd (true) true (is (.bool true)),
   is (.bool true),
   is (.bool true),
   gd (true) true (is (.slice (some ⟨a120', o121', none⟩) (2) (c122'))),
   gd (true) true (is (.int .i64 (max t0 t1))),
   gd (true) true (is (.int .i64 ((max t0 t1) + b.height))),
   gd (true) true (row 24 2 #[.int .i64 (max t0 t1), .int .i64 ((max t0 t1) + b.height)] 3),
   gd (true) true (is (.bool true)),
   is (.bool true),
   is (.bool true),
   gd (true) true (is (.bool true)),
   is (.bool true),
   is (.bool true)])
  ⟨is_k, is_k, is_k, is_k, gd_k (is_k), gd_k (is_k), gd_k (is_k), is_k, is_k, gd_k (is_k), gd_k (is_k), gd_k (is_k), gd_k (is_k), gd_k (is_k), is_k, is_k, gd_k (is_k), gd_k (is_k), gd_k (is_k), is_k, is_k, gd_k (is_k), gd_k (is_k), gd_k (is_k), gd_k (row_k), gd_k (is_k), is_k, is_k, gd_k (is_k), is_k, is_k, trivial⟩
  ⟨fun f s W j l m q r i => opv rfl rfl (by simp [go_sem, i.e 5 k39_5]) rfl,
  fun f s W j l m q r i => opv rfl rfl (by simp [go_sem, i.e 12 k39_12]) rfl,
  fun f s W j l m q r i => opv rfl rfl (by simp [go_sem, i.e 123 (l 0 rfl), i.e 124 (l 1 rfl)]) rfl,
  fun f s W j l m q r i => opv rfl rfl (by simp [go_sem, i.e 125 (l 2 rfl)]) rfl,
  fun f s W j l m q r i => gdo rfl rfl (i.says (d := 126) rfl rfl (l 3 rfl)) fun hgd0 => gv (by simp [go_sem, i.e 6 k39_6]) rfl,
  fun f s W j l m q r i => gdo rfl rfl (i.says (d := 126) rfl rfl (l 3 rfl)) fun hgd0 => gv (by simp [go_sem, i.e 17 k39_17]) rfl,
  fun f s W j l m q r i => gdo rfl rfl (i.says (d := 126) rfl rfl (l 3 rfl)) fun hgd0 => gv (by simp [go_sem, i.e 127 ((l 4 rfl).1 hgd0), i.e 128 ((l 5 rfl).1 hgd0)]) rfl,
  fun f s W j l m q r i => opk (c := true) rfl rfl (fun h => absurd h (by decide)) (fun _ => by simp [go_sem, i.e 126 (l 3 rfl), i.e 129 ((l 6 rfl).1 rfl)]),
  fun f s W j l m q r i => opv rfl rfl (by simp [go_sem, i.e 130 (l 7 rfl)]) rfl,
  fun f s W j l m q r i => gdo rfl rfl (i.says (d := 131) rfl rfl (l 8 rfl)) fun hgd0 => gv (by simp [go_sem, i.e 7 k39_7]) rfl,
  fun f s W j l m q r i => gdo rfl rfl (i.says (d := 131) rfl rfl (l 8 rfl)) fun hgd0 => gv (by simp [go_sem, i.e 12 k39_12]) rfl,
  fun f s W j l m q r i => gdo rfl rfl (i.says (d := 131) rfl rfl (l 8 rfl)) fun hgd0 => gv (by simp [go_sem, i.e 17 k39_17]) rfl,
  fun f s W j l m q r i => gdo rfl rfl (i.says (d := 131) rfl rfl (l 8 rfl)) fun hgd0 => gv (by simp [go_sem, i.e 133 ((l 10 rfl).1 hgd0), i.e 134 ((l 11 rfl).1 hgd0), IntWalk.i64_in (((((b.tab + p0) + p1) + p2) + p3) * (((max t0 t1) + b.height) + (max u0 u1))) (by omega)]) rfl,
  fun f s W j l m q r i => gdo rfl rfl (i.says (d := 131) rfl rfl (l 8 rfl)) fun hgd0 => gv (by simp [go_sem, i.e 132 ((l 9 rfl).1 hgd0), i.e 135 ((l 12 rfl).1 hgd0)]) rfl,
  fun f s W j l m q r i => opk (c := true) rfl rfl (fun h => absurd h (by decide)) (fun _ => by simp [go_sem, i.e 131 (l 8 rfl), i.e 136 ((l 13 rfl).1 rfl)]),
  fun f s W j l m q r i => opv rfl rfl (by simp [go_sem, i.e 137 (l 14 rfl)]) rfl,
  fun f s W j l m q r i => gdo rfl rfl (i.says (d := 138) rfl rfl (l 15 rfl)) fun hgd0 => gv (by simp [go_sem, i.e 9 k39_9]) rfl,
  fun f s W j l m q r i => gdo rfl rfl (i.says (d := 138) rfl rfl (l 15 rfl)) fun hgd0 => gv (by simp [go_sem, i.e 13 k39_13]) rfl,
  fun f s W j l m q r i => gdo rfl rfl (i.says (d := 138) rfl rfl (l 15 rfl)) fun hgd0 => wp_called (args := #[.slice (some ⟨a115', o116', none⟩) (4) (c117'), .slice (some ⟨ga32, 0, none⟩) (4) (ca32)]) (by simp [go_sem, i.e 139 ((l 16 rfl).1 hgd0), i.e 140 ((l 17 rfl).1 hgd0)]) (intsEq_any _ _ [b.tab, b.tab + p0, (b.tab + p0) + p1, ((b.tab + p0) + p1) + p2] _ _ [b.tab, b.tab + p0, (b.tab + p0) + p1, ((b.tab + p0) + p1) + p2] W ((q418'.below j (Nat.le_refl _))) ((q422'.below j)).ii) ((fun e W' h => by have h1 := h.1; rw [beq_self_eq_true] at h1; exact ⟨_, h1, h.2, rfl⟩)),
  fun f s W j l m q r i => opk (c := true) rfl rfl (fun h => absurd h (by decide)) (fun _ => by simp [go_sem, i.e 138 (l 15 rfl), i.e 141 ((l 18 rfl).1 rfl)]),
  fun f s W j l m q r i => opv rfl rfl (by simp [go_sem, i.e 142 (l 19 rfl)]) rfl,
  fun f s W j l m q r i => gdo rfl rfl (i.says (d := 143) rfl rfl (l 20 rfl)) fun hgd0 => gv (by simp [go_sem, i.e 10 k39_10]) rfl,
  fun f s W j l m q r i => gdo rfl rfl (i.says (d := 143) rfl rfl (l 20 rfl)) fun hgd0 => gv (by simp [go_sem, i.e 15 k39_15]) rfl,
  fun f s W j l m q r i => gdo rfl rfl (i.says (d := 143) rfl rfl (l 20 rfl)) fun hgd0 => gv (by simp [go_sem, i.e 16 k39_16]) rfl,
  fun f s W j l m q r i => gdo rfl rfl (i.says (d := 143) rfl rfl (l 20 rfl)) fun hgd0 => gr (by simp [go_sem, i.e 145 ((l 22 rfl).1 hgd0), i.e 146 ((l 23 rfl).1 hgd0)]),
  fun f s W j l m q r i => gdo rfl rfl (i.says (d := 143) rfl rfl (l 20 rfl)) fun hgd0 => wp_called (args := #[.slice (some ⟨a120', o121', none⟩) (2) (c122'), .slice (some ⟨(s 24), 0, none⟩) (2) (2)]) (by simp [go_sem, i.e 144 ((l 21 rfl).1 hgd0), i.e 147 ((l 24 rfl).1 hgd0).1]) (intsEq_any _ _ [max t0 t1, (max t0 t1) + b.height] _ _ [max t0 t1, (max t0 t1) + b.height] W ((q420'.below j (Nat.le_refl _))) (ii_block (xs := [max t0 t1, (max t0 t1) + b.height]) ((l 24 rfl).1 hgd0).2 rfl rfl)) ((fun e W' h => by have h1 := h.1; rw [beq_self_eq_true] at h1; exact ⟨_, h1, h.2, rfl⟩)),
  fun f s W j l m q r i => opk (c := true) rfl rfl (fun h => absurd h (by decide)) (fun _ => by simp [go_sem, i.e 143 (l 20 rfl), i.e 148 ((l 25 rfl).1 rfl)]),
  fun f s W j l m q r i => opv rfl rfl (by simp [go_sem, i.e 149 (l 26 rfl)]) rfl,
  fun f s W j l m q r i => gdo rfl rfl (i.says (d := 150) rfl rfl (l 27 rfl)) fun hgd0 => gc (by simp [go_sem]) (known_any W),
  fun f s W j l m q r i => opk (c := true) rfl rfl (fun h => absurd h (by decide)) (fun _ => by simp [go_sem, i.e 150 (l 27 rfl), i.e 151 ((l 28 rfl).1 rfl)]),
  fun f s W j l m q r i => opv rfl rfl (by simp [go_sem, i.e 152 (l 29 rfl)]) rfl, trivial⟩ ?_
 intro f40 s40 W40 hB40 g40 hg40
 have fB40 := below_trans fB39 hB40.below
 have z40 := hB40.below.size
 have b40_0 := blk_below b39_0 hB40.below
 have b40_1 := blk_below b39_1 hB40.below
 have q423' := (q412'.below hB40.below (Nat.le_refl _))
 have q424' := (Nat.lt_of_lt_of_le q413' (Below.size hB40.below))
 have q425' := (q414'.below hB40.below (Nat.le_refl _))
 have q426' := (Nat.lt_of_lt_of_le q415' (Below.size hB40.below))
 have q427' := (q416'.below hB40.below (Nat.le_refl _))
 have q428' := (Nat.lt_of_lt_of_le q417' (Below.size hB40.below))
 have q429' := (q418'.below hB40.below (Nat.le_refl _))
 have q430' := (Nat.lt_of_lt_of_le q419' (Below.size hB40.below))
 have q431' := (q420'.below hB40.below (Nat.le_refl _))
 have q432' := (Nat.lt_of_lt_of_le q421' (Below.size hB40.below))
 have q433' := (q422'.below hB40.below)
 have r40_24 := hB40.is 24
 refine hK44 _ _ ?_
 have k40_2 := kt hg40 2 (hB40.is 30)
 refine wp_ret ?_
 refine leave_one (N := 153) (v := .bool true) (.inr rfl) Try.results3 rfl k40_2 ?_
 exact ⟨rfl, fB40⟩
theorem sizes_any (a1 a2 a3 : Option Addr) (c1 c2 c3 : Nat) (b : Bl) (w : World) (h1 : Ii w a1 b.panels.length c1 b.panels) (h2 : Ii w a2 b.top.length c2 b.top) (h3 : Ii w a3 b.bottom.length c3 b.bottom) : Calls Try.prog 3 #[.agg #[.int .i64 b.tab, .slice (a1) (b.panels.length) (c1), .int .i64 b.height, .slice (a2) (b.top.length) (c2), .slice (a3) (b.bottom.length) (c3), .int .i64 b.slot, .bool b.isOpen]] w (fun e w' => e = .returned (.bool true) ∧ Below w.heap.size w w') := by
  cases hl : largeB b with
  | true => exact sizes_large a1 a2 a3 c1 c2 c3 b w h1 h2 h3 hl
  | false =>
    by_cases hcz : checkErr b = 0
    · exact sizes_good a1 a2 a3 c1 c2 c3 b w h1 h2 h3 hl hcz
    · exact sizes_bad a1 a2 a3 c1 c2 c3 b _ w h1 h2 h3 hl rfl (bne_iff_ne.2 hcz)
end Go.Proofs.Ythnediamopehfaa
