/- Part of the proof: what the claim leans on. -/
import Derived.Test.YthnediamopehfaaGreatZBB
import Derived.Test.YthnediamopehfaaGreatZBI
set_option linter.unusedSimpArgs false
set_option linter.unusedVariables false
namespace Go.Proofs.YthnediamopehfaaGreat
open Go.RowKit
set_option maxRecDepth 100000 in
set_option maxHeartbeats 400000 in
theorem closes_large (a1 a2 a3 : Option Addr) (c1 c2 c3 : Nat) (b : Bl) (l1 h1' l2 h2' l3 h3' l4 h4' l5 h5' : Int) (wo : Bool) (lo hi : Int) (w : World) (h1 : Ii w a1 b.panels.length c1 b.panels) (h2 : Ii w a2 b.top.length c2 b.top) (h3 : Ii w a3 b.bottom.length c3 b.bottom) (hl : largeB b = true) :
  Calls Tryz.prog 4 #[.agg #[.int .i64 b.tab, .slice (a1) (b.panels.length) (c1), .int .i64 b.height, .slice (a2) (b.top.length) (c2), .slice (a3) (b.bottom.length) (c3), .int .i64 b.slot, .bool b.isOpen], .agg #[.int .i64 l1, .int .i64 (h1'), .int .i64 l2, .int .i64 (h2'), .int .i64 l3, .int .i64 (h3'), .int .i64 l4, .int .i64 (h4'), .int .i64 l5, .int .i64 (h5'), .bool wo], .agg #[.int .i64 lo, .int .i64 hi]] w (fun e w' => e = .returned (.bool true) ∧ Below w.heap.size w w') := by
 have hm1 := h1.len_le
 have hm2 := h2.len_le
 have hm3 := h3.len_le
 refine calls_fr Tryz.func4 Tryz.ntmps4 rfl rfl fun g hg => ?_
 have k0 : g 0 = .agg #[.int .i64 b.tab, .slice (a1) (b.panels.length) (c1), .int .i64 b.height, .slice (a2) (b.top.length) (c2), .slice (a3) (b.bottom.length) (c3), .int .i64 b.slot, .bool b.isOpen] := hg 0
 have k1 : g 1 = .agg #[.int .i64 l1, .int .i64 (h1'), .int .i64 l2, .int .i64 (h2'), .int .i64 l3, .int .i64 (h3'), .int .i64 l4, .int .i64 (h4'), .int .i64 l5, .int .i64 (h5'), .bool wo] := hg 1
 have k2 : g 2 = .agg #[.int .i64 lo, .int .i64 hi] := hg 2
 clear hg
 have fB0 : Below w.heap.size w w := Below.refl _ _
 refine wp_seq_k fun K1 hK1 => ?_
 refine region_dk 4 [(3, 0), (4, 1), (5, 2), (6, 3)] [[], [], [], []] (rel [bx 0 #[.int .i64 b.tab, .slice (a1) (b.panels.length) (c1), .int .i64 b.height, .slice (a2) (b.top.length) (c2), .slice (a3) (b.bottom.length) (c3), .int .i64 b.slot, .bool b.isOpen] 24,
   bx 1 #[.int .i64 l1, .int .i64 (h1'), .int .i64 l2, .int .i64 (h2'), .int .i64 l3, .int .i64 (h3'), .int .i64 l4, .int .i64 (h4'), .int .i64 l5, .int .i64 (h5'), .bool wo] 43,
   bx 2 #[.int .i64 lo, .int .i64 hi] 26,
   is (.bool false)])
  ⟨bx_k, bx_k, bx_k, is_k, trivial⟩
  ⟨fun f s W c d i j k a => opb rfl rfl (by simp [go_sem, a.e 0 k0]),
  fun f s W c d i j k a => opb rfl rfl (by simp [go_sem, a.e 1 k1]),
  fun f s W c d i j k a => opb rfl rfl (by simp [go_sem, a.e 2 k2]),
  fun f s W c d i j k a => opv rfl rfl (by simp [go_sem]) rfl, trivial⟩ ?_
 intro f1 s1 W1 hB1 g1 hg1
 have fB1 := below_trans fB0 hB1.below
 have z1 := hB1.below.size
 obtain ⟨r1_0, br1_0⟩ := hB1.is 0
 have lr1_0 := hB1.lr 0 br1_0
 obtain ⟨r1_1, br1_1⟩ := hB1.is 1
 have lr1_1 := hB1.lr 1 br1_1
 obtain ⟨r1_2, br1_2⟩ := hB1.is 2
 have lr1_2 := hB1.lr 2 br1_2
 have ne1_0_1 := hB1.nb 0 1
 have ne1_0_2 := hB1.nb 0 2
 have ne1_1_2 := hB1.nb 1 2
 refine hK1 _ _ ?_
 have k1_3 := kt hg1 3 r1_0
 have k1_4 := kt hg1 4 r1_1
 have k1_5 := kt hg1 5 r1_2
 have k1_6 := kt hg1 6 (hB1.is 3)
 refine wp_seq_k fun K2 hK2 => ?_
 refine wp_seq_k fun K3 hK3 => ?_
 refine region_dk 2 [(19, 0), (20, 1)] [[], [0]] (rel [is (.agg #[.int .i64 b.tab, .slice (a1) (b.panels.length) (c1), .int .i64 b.height, .slice (a2) (b.top.length) (c2), .slice (a3) (b.bottom.length) (c3), .int .i64 b.slot, .bool b.isOpen]),
   is (.bool true)])
  ⟨is_k, is_k, trivial⟩
  ⟨fun f s W c d i j k a => opv rfl rfl (by simp [go_sem, a.e 3 k1_3, Joins.cell_of_block (blk_below br1_0 c) 0, Joins.cell_of_block (blk_below br1_0 c) 1, Joins.cell_of_block (blk_below br1_0 c) 2, Joins.cell_of_block (blk_below br1_0 c) 3, Joins.cell_of_block (blk_below br1_0 c) 4, Joins.cell_of_block (blk_below br1_0 c) 5, Joins.cell_of_block (blk_below br1_0 c) 6]) rfl,
  fun f s W c d i j k a => by have l := below_trans fB1 c; exact opDo_call rfl rfl (by simp [go_sem, a.e 19 (d 0 rfl)]) (large_any a1 a2 a3 c1 c2 c3 b W (h1.below l (Nat.le_refl _)) (h2.below l (Nat.le_refl _)) (h3.below l (Nat.le_refl _))) ((fun e W' h => by have h1 := h.1; rw [hl] at h1; exact ⟨_, h1, h.2, rfl⟩)), trivial⟩ ?_
 intro f2 s2 W2 hB2 g2 hg2
 have fB2 := below_trans fB1 hB2.below
 have z2 := hB2.below.size
 have b2_0 := blk_below br1_0 hB2.below
 have b2_1 := blk_below br1_1 hB2.below
 have b2_2 := blk_below br1_2 hB2.below
 refine hK3 _ _ ?_
 have k2_3 := kt hg2 3 k1_3
 have k2_4 := kt hg2 4 k1_4
 have k2_5 := kt hg2 5 k1_5
 have k2_6 := kt hg2 6 k1_6
 have k2_20 := kt hg2 20 (hB2.is 1)
 refine wp_cond_true ((fr_eval rfl).trans k2_20) ?_
 refine wp_seq_k fun K5 hK5 => ?_
 refine region_dk 2 [(21, 0), (6, 1)] [[], [0]] (rel [is (.bool true),
   is (.bool true)])
  ⟨is_k, is_k, trivial⟩
  ⟨fun f s W c d i j k a => opc rfl rfl (by simp [go_sem]) (known_any W),
  fun f s W c d i j k a => opv rfl rfl (by simp [go_sem, a.e 21 (d 0 rfl)]) rfl, trivial⟩ ?_
 intro f3 s3 W3 hB3 g3 hg3
 have fB3 := below_trans fB2 hB3.below
 have z3 := hB3.below.size
 have b3_0 := blk_below b2_0 hB3.below
 have b3_1 := blk_below b2_1 hB3.below
 have b3_2 := blk_below b2_2 hB3.below
 refine hK5 _ _ ?_
 have k3_3 := kt hg3 3 k2_3
 have k3_4 := kt hg3 4 k2_4
 have k3_5 := kt hg3 5 k2_5
 have k3_6 := kt hg3 6 (hB3.is 1)
 refine wp_ret ?_
 refine then_ret ?_
 refine leave_one (N := 132) (v := .bool true) (.inr rfl) Tryz.results4 rfl k3_6 ?_
 exact ⟨rfl, fB3⟩
set_option maxRecDepth 100000 in
set_option maxHeartbeats 40000000 in
theorem closes_main (a1 a2 a3 : Option Addr) (c1 c2 c3 : Nat) (b : Bl) (l1 h1' l2 h2' l3 h3' l4 h4' l5 h5' : Int) (wo : Bool) (lo hi : Int) (w : World) (h1 : Ii w a1 b.panels.length c1 b.panels) (h2 : Ii w a2 b.top.length c2 b.top) (h3 : Ii w a3 b.bottom.length c3 b.bottom) (xw E1 E2 F q1 q2 : Int) (L : List Sp) (hl : largeB b = false) (hxw : wishErr ⟨(l1, h1'), (l2, h2'), (l3, h3'), (l4, h4'), (l5, h5'), wo⟩ = xw) (hE1 : wishedErr b ⟨(l1, h1'), (l2, h2'), (l3, h3'), (l4, h4'), (l5, h5'), wo⟩ [] = E1) (hE2 : wishedErr b ⟨(l1, h1'), (l2, h2'), (l3, h3'), (l4, h4'), (l5, h5'), wo⟩ [(lo, hi)] = E2) (hF : calErr b ⟨(l1, h1'), (l2, h2'), (l3, h3'), (l4, h4'), (l5, h5'), wo⟩ = F) (hq : calOf b ⟨(l1, h1'), (l2, h2'), (l3, h3'), (l4, h4'), (l5, h5'), wo⟩ = (q1, q2)) (hL : (if E2 = 0 then closeL b ⟨(l1, h1'), (l2, h2'), (l3, h3'), (l4, h4'), (l5, h5'), wo⟩ (lo, hi) else []) = L) :
  Calls Tryz.prog 4 #[.agg #[.int .i64 b.tab, .slice (a1) (b.panels.length) (c1), .int .i64 b.height, .slice (a2) (b.top.length) (c2), .slice (a3) (b.bottom.length) (c3), .int .i64 b.slot, .bool b.isOpen], .agg #[.int .i64 l1, .int .i64 (h1'), .int .i64 l2, .int .i64 (h2'), .int .i64 l3, .int .i64 (h3'), .int .i64 l4, .int .i64 (h4'), .int .i64 l5, .int .i64 (h5'), .bool wo], .agg #[.int .i64 lo, .int .i64 hi]] w (fun e w' => e = .returned (.bool true) ∧ Below w.heap.size w w') := by
 have hm1 := h1.len_le
 have hm2 := h2.len_le
 have hm3 := h3.len_le
 obtain ⟨m1, m2, m3⟩ := large_false hl
 have n1 : b.panels.length ≤ 1000 := by omega
 have n2 : b.top.length ≤ 1000 := by omega
 have n3 : b.bottom.length ≤ 1000 := by omega
 refine calls_fr Tryz.func4 Tryz.ntmps4 rfl rfl fun g hg => ?_
 have k0 : g 0 = .agg #[.int .i64 b.tab, .slice (a1) (b.panels.length) (c1), .int .i64 b.height, .slice (a2) (b.top.length) (c2), .slice (a3) (b.bottom.length) (c3), .int .i64 b.slot, .bool b.isOpen] := hg 0
 have k1 : g 1 = .agg #[.int .i64 l1, .int .i64 (h1'), .int .i64 l2, .int .i64 (h2'), .int .i64 l3, .int .i64 (h3'), .int .i64 l4, .int .i64 (h4'), .int .i64 l5, .int .i64 (h5'), .bool wo] := hg 1
 have k2 : g 2 = .agg #[.int .i64 lo, .int .i64 hi] := hg 2
 clear hg
 have fB0 : Below w.heap.size w w := Below.refl _ _
 refine wp_seq_k fun K1 hK1 => ?_
 refine region_dk 4 [(3, 0), (4, 1), (5, 2), (6, 3)] [[], [], [], []] (rel [bx 0 #[.int .i64 b.tab, .slice (a1) (b.panels.length) (c1), .int .i64 b.height, .slice (a2) (b.top.length) (c2), .slice (a3) (b.bottom.length) (c3), .int .i64 b.slot, .bool b.isOpen] 24,
   bx 1 #[.int .i64 l1, .int .i64 (h1'), .int .i64 l2, .int .i64 (h2'), .int .i64 l3, .int .i64 (h3'), .int .i64 l4, .int .i64 (h4'), .int .i64 l5, .int .i64 (h5'), .bool wo] 43,
   bx 2 #[.int .i64 lo, .int .i64 hi] 26,
   is (.bool false)])
  ⟨bx_k, bx_k, bx_k, is_k, trivial⟩
  ⟨fun f s W l m p q r j => opb rfl rfl (by simp [go_sem, j.e 0 k0]),
  fun f s W l m p q r j => opb rfl rfl (by simp [go_sem, j.e 1 k1]),
  fun f s W l m p q r j => opb rfl rfl (by simp [go_sem, j.e 2 k2]),
  fun f s W l m p q r j => opv rfl rfl (by simp [go_sem]) rfl, trivial⟩ ?_
 intro f1 s1 W1 hB1 g1 hg1
 have fB1 := below_trans fB0 hB1.below
 have z1 := hB1.below.size
 obtain ⟨r1_0, br1_0⟩ := hB1.is 0
 have lr1_0 := hB1.lr 0 br1_0
 obtain ⟨r1_1, br1_1⟩ := hB1.is 1
 have lr1_1 := hB1.lr 1 br1_1
 obtain ⟨r1_2, br1_2⟩ := hB1.is 2
 have lr1_2 := hB1.lr 2 br1_2
 have ne1_0_1 := hB1.nb 0 1
 have ne1_0_2 := hB1.nb 0 2
 have ne1_1_2 := hB1.nb 1 2
 refine hK1 _ _ ?_
 have k1_3 := kt hg1 3 r1_0
 have k1_4 := kt hg1 4 r1_1
 have k1_5 := kt hg1 5 r1_2
 have k1_6 := kt hg1 6 (hB1.is 3)
 refine wp_seq_k fun K2 hK2 => ?_
 refine wp_seq_k fun K3 hK3 => ?_
 refine region_dk 2 [(19, 0), (20, 1)] [[], [0]] (rel [is (.agg #[.int .i64 b.tab, .slice (a1) (b.panels.length) (c1), .int .i64 b.height, .slice (a2) (b.top.length) (c2), .slice (a3) (b.bottom.length) (c3), .int .i64 b.slot, .bool b.isOpen]),
   is (.bool false)])
  ⟨is_k, is_k, trivial⟩
  ⟨fun f s W l m p q r j => opv rfl rfl (by simp [go_sem, j.e 3 k1_3, Joins.cell_of_block (blk_below br1_0 l) 0, Joins.cell_of_block (blk_below br1_0 l) 1, Joins.cell_of_block (blk_below br1_0 l) 2, Joins.cell_of_block (blk_below br1_0 l) 3, Joins.cell_of_block (blk_below br1_0 l) 4, Joins.cell_of_block (blk_below br1_0 l) 5, Joins.cell_of_block (blk_below br1_0 l) 6]) rfl,
  fun f s W l m p q r j => by have u := below_trans fB1 l; exact opDo_call rfl rfl (by simp [go_sem, j.e 19 (m 0 rfl)]) (large_any a1 a2 a3 c1 c2 c3 b W (h1.below u (Nat.le_refl _)) (h2.below u (Nat.le_refl _)) (h3.below u (Nat.le_refl _))) ((fun e W' h => by have h1 := h.1; rw [hl] at h1; exact ⟨_, h1, h.2, rfl⟩)), trivial⟩ ?_
 intro f2 s2 W2 hB2 g2 hg2
 have fB2 := below_trans fB1 hB2.below
 have z2 := hB2.below.size
 have b2_0 := blk_below br1_0 hB2.below
 have b2_1 := blk_below br1_1 hB2.below
 have b2_2 := blk_below br1_2 hB2.below
 refine hK3 _ _ ?_
 have k2_3 := kt hg2 3 k1_3
 have k2_4 := kt hg2 4 k1_4
 have k2_5 := kt hg2 5 k1_5
 have k2_6 := kt hg2 6 k1_6
 have k2_20 := kt hg2 20 (hB2.is 1)
 refine wp_cond_false ((fr_eval rfl).trans k2_20) ?_
 refine wp_skip ?_
 refine hK2 _ _ ?_
 refine wp_seq_k fun K5 hK5 => ?_
 refine region_dk 3 [(22, 0), (23, 1), (7, 2)] [[], [0], [], [0, 1, 2]] (rel [is (.agg #[.int .i64 b.tab, .slice (a1) (b.panels.length) (c1), .int .i64 b.height, .slice (a2) (b.top.length) (c2), .slice (a3) (b.bottom.length) (c3), .int .i64 b.slot, .bool b.isOpen]),
   fun v s W => NwBlk (s 1) (b) v W,
   bx 2 #[.int .i64 0, .slice (none) (0) (0), .int .i64 0, .slice (none) (0) (0), .slice (none) (0) (0), .int .i64 0, .bool false] 24])
  ⟨is_k, ⟨fun v k W W' hb h => h.below hb, fun v s s' W e h => by have h' : NwBlk (s 1) (b) v W := h; show NwBlk (s' 1) (b) v W; rw [← e 1 (by simp)]; exact h'⟩, bx_k, trivial⟩
  ⟨fun f s W l m p q r j => opv rfl rfl (by simp [go_sem, j.e 3 k2_3, Joins.cell_of_block (blk_below b2_0 l) 0, Joins.cell_of_block (blk_below b2_0 l) 1, Joins.cell_of_block (blk_below b2_0 l) 2, Joins.cell_of_block (blk_below b2_0 l) 3, Joins.cell_of_block (blk_below b2_0 l) 4, Joins.cell_of_block (blk_below b2_0 l) 5, Joins.cell_of_block (blk_below b2_0 l) 6]) rfl,
  fun f s W l m p q r j => by have u := below_trans fB2 l; exact opDo_call rfl rfl (by simp [go_sem, j.e 22 (m 0 rfl)]) (own_any a1 a2 a3 c1 c2 c3 b W (h1.below u (Nat.le_refl _)) (h2.below u (Nat.le_refl _)) (h3.below u (Nat.le_refl _)) n1 n2 n3) (fun e W' h => by obtain ⟨v, e1, h1, h2⟩ := h; exact ⟨v, e1, h2, (show NwBlk (upd s 1 W.heap.size 1) (b) v W' from by rw [upd_at]; exact h1)⟩),
  fun f s W l m p q r j => opb rfl rfl (by simp [go_sem]), trivial⟩ ?_
 intro f3 s3 W3 hB3 g3 hg3
 have fB3 := below_trans fB2 hB3.below
 have z3 := hB3.below.size
 have b3_0 := blk_below b2_0 hB3.below
 have b3_1 := blk_below b2_1 hB3.below
 have b3_2 := blk_below b2_2 hB3.below
 have la3_1_1 := hB3.from' 1 (by decide)
 obtain ⟨g1', c4', g2', c5', g3', c6', r3_1, ⟨q7', q9', q8'⟩, ⟨q10', q12', q11'⟩, ⟨q13', q15', q14'⟩⟩ := hB3.is 1
 obtain ⟨r3_2, br3_2⟩ := hB3.is 2
 have lr3_2 := hB3.lr 2 br3_2
 have la3_1 := hB3.from' 1 (by decide)
 have of3_1_2_0 := hB3.off 1 2 (by decide) (by decide) (by decide) q9' (fun W h => (NwBlk.lt h r3_1).1) (fun _ _ _ h => lt_of_blk h.2)
 have of3_1_2_1 := hB3.off 1 2 (by decide) (by decide) (by decide) q12' (fun W h => (NwBlk.lt h r3_1).2.1) (fun _ _ _ h => lt_of_blk h.2)
 have of3_1_2_2 := hB3.off 1 2 (by decide) (by decide) (by decide) q15' (fun W h => (NwBlk.lt h r3_1).2.2) (fun _ _ _ h => lt_of_blk h.2)
 have k3_3 := kt hg3 3 k2_3
 have k3_4 := kt hg3 4 k2_4
 have k3_5 := kt hg3 5 k2_5
 have k3_6 := kt hg3 6 k2_6
 have k3_23 := kt hg3 23 r3_1
 have k3_7 := kt hg3 7 r3_2
 obtain ⟨W4, hW4⟩ : ∃ W', W' = W3.setRow (s3 2) #[.int .i64 b.tab, .slice (some ⟨g1', 0, none⟩) (b.panels.length) (c4'), .int .i64 b.height, .slice (some ⟨g2', 0, none⟩) (b.top.length) (c5'), .slice (some ⟨g3', 0, none⟩) (b.bottom.length) (c6'), .int .i64 b.slot, .bool b.isOpen] := ⟨_, rfl⟩
 refine tail_skip (o := _) rfl ⟨rfl, rfl⟩ (run_seg hW4 (fr_ev k3_7) (fr_ev k3_23) br3_2 rfl rfl rfl rfl) ?_
 obtain ⟨fB4, nb4, ot4, z4⟩ := seg_facts hW4 fB3 br3_2 (by omega)
 clear hW4
 have b4_0 := ot4 _ _ (by omega) b3_0
 have b4_1 := ot4 _ _ (by omega) b3_1
 have b4_2 := ot4 _ _ (by omega) b3_2
 have q16' := (q7'.other ot4 q8' (by omega) z4)
 have q17' := Nat.lt_of_lt_of_le q8' z4
 have q18' := (q10'.other ot4 q11' (by omega) z4)
 have q19' := Nat.lt_of_lt_of_le q11' z4
 have q20' := (q13'.other ot4 q14' (by omega) z4)
 have q21' := Nat.lt_of_lt_of_le q14' z4
 refine wpOps_end ?_
 refine hK5 _ _ ?_
 refine wp_seq_k fun K6 hK6 => ?_
 refine region_dk 3 [(24, 0), (25, 1), (8, 2)] [[], [0], [0, 1]] (rel [is (.agg #[.int .i64 l1, .int .i64 (h1'), .int .i64 l2, .int .i64 (h2'), .int .i64 l3, .int .i64 (h3'), .int .i64 l4, .int .i64 (h4'), .int .i64 l5, .int .i64 (h5'), .bool wo]),
   is (.int .i64 xw),
   is (.int .i64 xw)])
  ⟨is_k, is_k, is_k, trivial⟩
  ⟨fun f s W l m p q r j => opv rfl rfl (by simp [go_sem, j.e 4 k3_4, Joins.cell_of_block (blk_below b4_1 l) 0, Joins.cell_of_block (blk_below b4_1 l) 1, Joins.cell_of_block (blk_below b4_1 l) 2, Joins.cell_of_block (blk_below b4_1 l) 3, Joins.cell_of_block (blk_below b4_1 l) 4, Joins.cell_of_block (blk_below b4_1 l) 5, Joins.cell_of_block (blk_below b4_1 l) 6, Joins.cell_of_block (blk_below b4_1 l) 7, Joins.cell_of_block (blk_below b4_1 l) 8, Joins.cell_of_block (blk_below b4_1 l) 9, Joins.cell_of_block (blk_below b4_1 l) 10]) rfl,
  fun f s W l m p q r j => opDo_call rfl rfl (by simp [go_sem, j.e 24 (m 0 rfl)]) (wish_any l1 h1' l2 h2' l3 h3' l4 h4' l5 h5' wo W) ((fun e W' h => by have h1 := h.1; rw [hxw] at h1; exact ⟨_, h1, h.2, rfl⟩)),
  fun f s W l m p q r j => opv rfl rfl (by simp [go_sem, j.e 25 (m 1 rfl)]) rfl, trivial⟩ ?_
 intro f5 s5 W5 hB5 g5 hg5
 have fB5 := below_trans fB4 hB5.below
 have z5 := hB5.below.size
 have b5_0 := blk_below b4_0 hB5.below
 have b5_1 := blk_below b4_1 hB5.below
 have b5_2 := blk_below b4_2 hB5.below
 have b5_3 := blk_below nb4 hB5.below
 have q22' := (q16'.below hB5.below (Nat.le_refl _))
 have q23' := (Nat.lt_of_lt_of_le q17' (Below.size hB5.below))
 have q24' := (q18'.below hB5.below (Nat.le_refl _))
 have q25' := (Nat.lt_of_lt_of_le q19' (Below.size hB5.below))
 have q26' := (q20'.below hB5.below (Nat.le_refl _))
 have q27' := (Nat.lt_of_lt_of_le q21' (Below.size hB5.below))
 refine hK6 _ _ ?_
 have k5_3 := kt hg5 3 k3_3
 have k5_4 := kt hg5 4 k3_4
 have k5_5 := kt hg5 5 k3_5
 have k5_6 := kt hg5 6 k3_6
 have k5_7 := kt hg5 7 k3_7
 have k5_8 := kt hg5 8 (hB5.is 2)
 refine wp_seq_k fun K7 hK7 => ?_
 refine region_dk 9 [(27, 0), (28, 1), (29, 2), (30, 3), (26, 4), (31, 5), (32, 6), (9, 7), (10, 8)] [[], [], [], [0, 1, 2], [0, 1, 2, 3], [0, 1, 2, 3, 4], [0, 1, 2, 3, 4], [0, 1, 2, 3, 4, 5], [0, 1, 2, 3, 4, 5, 6, 7]] (rel [is (.agg #[.int .i64 b.tab, .slice (some ⟨g1', 0, none⟩) (b.panels.length) (c4'), .int .i64 b.height, .slice (some ⟨g2', 0, none⟩) (b.top.length) (c5'), .slice (some ⟨g3', 0, none⟩) (b.bottom.length) (c6'), .int .i64 b.slot, .bool b.isOpen]),
   is (.agg #[.int .i64 l1, .int .i64 (h1'), .int .i64 l2, .int .i64 (h2'), .int .i64 l3, .int .i64 (h3'), .int .i64 l4, .int .i64 (h4'), .int .i64 l5, .int .i64 (h5'), .bool wo]),
   is (.agg #[.int .i64 lo, .int .i64 hi]),
   ab fun v W => ∃ x0, v = .tuple #[x0, .int .i64 E2] ∧ IsPp L x0 W,
   ab fun v W => ∃ x0, v = .tuple #[x0, .int .i64 E2] ∧ IsPp L x0 W,
   ab fun v W => IsPp L v W,
   is (.int .i64 E2),
   ab fun v W => IsPp L v W,
   is (.int .i64 E2)])
  ⟨is_k, is_k, is_k, ab_k fun v W W' hb ⟨x0, e, h0⟩ => ⟨x0, e, h0.below hb⟩, ab_k fun v W W' hb ⟨x0, e, h0⟩ => ⟨x0, e, h0.below hb⟩, ab_k fun v W W' hb h => h.below hb, is_k, ab_k fun v W W' hb h => h.below hb, is_k, trivial⟩
  ⟨fun f s W l m p q r j => opv rfl rfl (by simp [go_sem, j.e 7 k5_7, Joins.cell_of_block (blk_below b5_3 l) 0, Joins.cell_of_block (blk_below b5_3 l) 1, Joins.cell_of_block (blk_below b5_3 l) 2, Joins.cell_of_block (blk_below b5_3 l) 3, Joins.cell_of_block (blk_below b5_3 l) 4, Joins.cell_of_block (blk_below b5_3 l) 5, Joins.cell_of_block (blk_below b5_3 l) 6]) rfl,
  fun f s W l m p q r j => opv rfl rfl (by simp [go_sem, j.e 4 k5_4, Joins.cell_of_block (blk_below b5_1 l) 0, Joins.cell_of_block (blk_below b5_1 l) 1, Joins.cell_of_block (blk_below b5_1 l) 2, Joins.cell_of_block (blk_below b5_1 l) 3, Joins.cell_of_block (blk_below b5_1 l) 4, Joins.cell_of_block (blk_below b5_1 l) 5, Joins.cell_of_block (blk_below b5_1 l) 6, Joins.cell_of_block (blk_below b5_1 l) 7, Joins.cell_of_block (blk_below b5_1 l) 8, Joins.cell_of_block (blk_below b5_1 l) 9, Joins.cell_of_block (blk_below b5_1 l) 10]) rfl,
  fun f s W l m p q r j => opv rfl rfl (by simp [go_sem, j.e 5 k5_5, Joins.cell_of_block (blk_below b5_2 l) 0, Joins.cell_of_block (blk_below b5_2 l) 1]) rfl,
  fun f s W l m p q r j => opDo_call (args := #[.agg #[.int .i64 b.tab, .slice (some ⟨g1', 0, none⟩) (b.panels.length) (c4'), .int .i64 b.height, .slice (some ⟨g2', 0, none⟩) (b.top.length) (c5'), .slice (some ⟨g3', 0, none⟩) (b.bottom.length) (c6'), .int .i64 b.slot, .bool b.isOpen], .agg #[.int .i64 l1, .int .i64 (h1'), .int .i64 l2, .int .i64 (h2'), .int .i64 l3, .int .i64 (h3'), .int .i64 l4, .int .i64 (h4'), .int .i64 l5, .int .i64 (h5'), .bool wo], .agg #[.int .i64 lo, .int .i64 hi]]) rfl rfl (by simp [go_sem, j.e 27 (m 0 rfl), j.e 28 (m 1 rfl), j.e 29 (m 2 rfl)]) (close_any _ b l1 h1' l2 h2' l3 h3' l4 h4' l5 h5' wo lo hi W ⟨_, _, _, _, _, _, _, _, _, rfl, ((q22'.below l (Nat.le_refl _))), ((q24'.below l (Nat.le_refl _))), ((q26'.below l (Nat.le_refl _)))⟩) ((fun e W' h => by obtain ⟨a, n, c, e1, h1, h2⟩ := h; rw [hE2] at e1; rw [hE2, hL] at h1; exact ⟨_, e1, h2, _, rfl, isPp_of h1⟩)),
  fun f s W l m p q r j => opv (v := (f 3)) rfl rfl (by simp [go_sem, (j.at' 30 rfl : r.tmps[30]?.getD undef = f 3)] <;> rfl) (m 3 rfl),
  fun f s W l m p q r j => by obtain ⟨x4_0, d4, p4_0⟩ := (m 4 rfl); exact opv (v := x4_0) rfl rfl (by simp [go_sem, j.e 26 d4]) p4_0,
  fun f s W l m p q r j => by obtain ⟨x4_0, d4, p4_0⟩ := (m 4 rfl); exact opv rfl rfl (by simp [go_sem, j.e 26 d4]) rfl,
  fun f s W l m p q r j => opv (v := (f 5)) rfl rfl (by simp [go_sem, (j.at' 31 rfl : r.tmps[31]?.getD undef = f 5)] <;> rfl) (m 5 rfl),
  fun f s W l m p q r j => opv rfl rfl (by simp [go_sem, j.e 32 (m 6 rfl)]) rfl, trivial⟩ ?_
 intro f6 s6 W6 hB6 g6 hg6
 have fB6 := below_trans fB5 hB6.below
 have z6 := hB6.below.size
 have b6_0 := blk_below b5_0 hB6.below
 have b6_1 := blk_below b5_1 hB6.below
 have b6_2 := blk_below b5_2 hB6.below
 have b6_3 := blk_below b5_3 hB6.below
 have q31' := (q22'.below hB6.below (Nat.le_refl _))
 have q32' := (Nat.lt_of_lt_of_le q23' (Below.size hB6.below))
 have q33' := (q24'.below hB6.below (Nat.le_refl _))
 have q34' := (Nat.lt_of_lt_of_le q25' (Below.size hB6.below))
 have q35' := (q26'.below hB6.below (Nat.le_refl _))
 have q36' := (Nat.lt_of_lt_of_le q27' (Below.size hB6.below))
 obtain ⟨a37', c38', r6_7, q39'⟩ := hB6.is 7
 have lim40' := Pp.lim q39'
 refine hK7 _ _ ?_
 have k6_3 := kt hg6 3 k5_3
 have k6_4 := kt hg6 4 k5_4
 have k6_5 := kt hg6 5 k5_5
 have k6_6 := kt hg6 6 k5_6
 have k6_7 := kt hg6 7 k5_7
 have k6_8 := kt hg6 8 k5_8
 have k6_9 := kt hg6 9 r6_7
 have k6_10 := kt hg6 10 (hB6.is 8)
 refine wp_seq_k fun K8 hK8 => ?_
 refine region_dk 7 [(34, 0), (35, 1), (36, 2), (33, 3), (37, 4), (38, 5), (11, 6), (12, 8)] [[], [], [0, 1], [0, 1, 2], [0, 1, 2, 3], [0, 1, 2, 3], [], [0, 1, 2, 3, 4, 6], [0, 1, 2, 3, 4, 5, 6, 7]] (rel [is (.agg #[.int .i64 b.tab, .slice (some ⟨g1', 0, none⟩) (b.panels.length) (c4'), .int .i64 b.height, .slice (some ⟨g2', 0, none⟩) (b.top.length) (c5'), .slice (some ⟨g3', 0, none⟩) (b.bottom.length) (c6'), .int .i64 b.slot, .bool b.isOpen]),
   is (.agg #[.int .i64 l1, .int .i64 (h1'), .int .i64 l2, .int .i64 (h2'), .int .i64 l3, .int .i64 (h3'), .int .i64 l4, .int .i64 (h4'), .int .i64 l5, .int .i64 (h5'), .bool wo]),
   is (.tuple #[.agg #[.int .i64 q1, .int .i64 q2], .int .i64 F]),
   is (.tuple #[.agg #[.int .i64 q1, .int .i64 q2], .int .i64 F]),
   is (.agg #[.int .i64 q1, .int .i64 q2]),
   is (.int .i64 F),
   bx 6 #[.int .i64 0, .int .i64 0] 26])
  ⟨is_k, is_k, is_k, is_k, is_k, is_k, bx_k, trivial⟩
  ⟨fun f s W l m p q r j => opv rfl rfl (by simp [go_sem, j.e 7 k6_7, Joins.cell_of_block (blk_below b6_3 l) 0, Joins.cell_of_block (blk_below b6_3 l) 1, Joins.cell_of_block (blk_below b6_3 l) 2, Joins.cell_of_block (blk_below b6_3 l) 3, Joins.cell_of_block (blk_below b6_3 l) 4, Joins.cell_of_block (blk_below b6_3 l) 5, Joins.cell_of_block (blk_below b6_3 l) 6]) rfl,
  fun f s W l m p q r j => opv rfl rfl (by simp [go_sem, j.e 4 k6_4, Joins.cell_of_block (blk_below b6_1 l) 0, Joins.cell_of_block (blk_below b6_1 l) 1, Joins.cell_of_block (blk_below b6_1 l) 2, Joins.cell_of_block (blk_below b6_1 l) 3, Joins.cell_of_block (blk_below b6_1 l) 4, Joins.cell_of_block (blk_below b6_1 l) 5, Joins.cell_of_block (blk_below b6_1 l) 6, Joins.cell_of_block (blk_below b6_1 l) 7, Joins.cell_of_block (blk_below b6_1 l) 8, Joins.cell_of_block (blk_below b6_1 l) 9, Joins.cell_of_block (blk_below b6_1 l) 10]) rfl,
  fun f s W l m p q r j => opDo_call (args := #[.agg #[.int .i64 b.tab, .slice (some ⟨g1', 0, none⟩) (b.panels.length) (c4'), .int .i64 b.height, .slice (some ⟨g2', 0, none⟩) (b.top.length) (c5'), .slice (some ⟨g3', 0, none⟩) (b.bottom.length) (c6'), .int .i64 b.slot, .bool b.isOpen], .agg #[.int .i64 l1, .int .i64 (h1'), .int .i64 l2, .int .i64 (h2'), .int .i64 l3, .int .i64 (h3'), .int .i64 l4, .int .i64 (h4'), .int .i64 l5, .int .i64 (h5'), .bool wo]]) rfl rfl (by simp [go_sem, j.e 34 (m 0 rfl), j.e 35 (m 1 rfl)]) (calipers_any _ b l1 h1' l2 h2' l3 h3' l4 h4' l5 h5' wo W ⟨_, _, _, _, _, _, _, _, _, rfl, ((q31'.below l (Nat.le_refl _))), ((q33'.below l (Nat.le_refl _))), ((q35'.below l (Nat.le_refl _)))⟩) ((fun e W' h => by have h1 := h.1; rw [hq, hF] at h1; exact ⟨_, h1, h.2, rfl⟩)),
  fun f s W l m p q r j => opv rfl rfl (by simp [go_sem, j.e 36 (m 2 rfl)]) rfl,
  fun f s W l m p q r j => opv rfl rfl (by simp [go_sem, j.e 33 (m 3 rfl)]) rfl,
  fun f s W l m p q r j => opv rfl rfl (by simp [go_sem, j.e 33 (m 3 rfl)]) rfl,
  fun f s W l m p q r j => opb rfl rfl (by simp [go_sem]), trivial⟩ ?_
 intro f7 s7 W7 hB7 g7 hg7
 have fB7 := below_trans fB6 hB7.below
 have z7 := hB7.below.size
 have b7_0 := blk_below b6_0 hB7.below
 have b7_1 := blk_below b6_1 hB7.below
 have b7_2 := blk_below b6_2 hB7.below
 have b7_3 := blk_below b6_3 hB7.below
 have q41' := (q31'.below hB7.below (Nat.le_refl _))
 have q42' := (Nat.lt_of_lt_of_le q32' (Below.size hB7.below))
 have q43' := (q33'.below hB7.below (Nat.le_refl _))
 have q44' := (Nat.lt_of_lt_of_le q34' (Below.size hB7.below))
 have q45' := (q35'.below hB7.below (Nat.le_refl _))
 have q46' := (Nat.lt_of_lt_of_le q36' (Below.size hB7.below))
 have q47' := (q39'.below hB7.below (Nat.le_refl _))
 obtain ⟨r7_6, br7_6⟩ := hB7.is 6
 have lr7_6 := hB7.lr 6 br7_6
 have k7_3 := kt hg7 3 k6_3
 have k7_4 := kt hg7 4 k6_4
 have k7_5 := kt hg7 5 k6_5
 have k7_6 := kt hg7 6 k6_6
 have k7_7 := kt hg7 7 k6_7
 have k7_8 := kt hg7 8 k6_8
 have k7_9 := kt hg7 9 k6_9
 have k7_10 := kt hg7 10 k6_10
 have k7_37 := kt hg7 37 (hB7.is 4)
 have k7_38 := kt hg7 38 (hB7.is 5)
 have k7_11 := kt hg7 11 r7_6
 obtain ⟨W8, hW8⟩ : ∃ W', W' = W7.setRow (s7 6) #[.int .i64 q1, .int .i64 q2] := ⟨_, rfl⟩
 refine tail_skip (o := _) rfl ⟨rfl, rfl⟩ (run_seg hW8 (fr_ev k7_11) (fr_ev k7_37) br7_6 rfl rfl rfl rfl) ?_
 obtain ⟨fB8, nb8, ot8, z8⟩ := seg_facts hW8 fB7 br7_6 (by omega)
 clear hW8
 have b8_0 := ot8 _ _ (by omega) b7_0
 have b8_1 := ot8 _ _ (by omega) b7_1
 have b8_2 := ot8 _ _ (by omega) b7_2
 have b8_3 := ot8 _ _ (by omega) b7_3
 have q48' := (q41'.other ot8 q42' (by omega) z8)
 have q49' := Nat.lt_of_lt_of_le q42' z8
 have q50' := (q43'.other ot8 q44' (by omega) z8)
 have q51' := Nat.lt_of_lt_of_le q44' z8
 have q52' := (q45'.other ot8 q46' (by omega) z8)
 have q53' := Nat.lt_of_lt_of_le q46' z8
 have q54' := (q47'.otherA ot8 (fun g o e hx => by have := lim40' g o e hx; omega) z8)
 refine tail_value (o := _) rfl rfl rfl (v := .int .i64 F) (by simp [go_sem, frv 132 k7_38]) ?_
 generalize hg9 : upd g7 12 (.int .i64 F) = g9
 have k9_3 := ku hg9 3 k7_3
 have k9_4 := ku hg9 4 k7_4
 have k9_5 := ku hg9 5 k7_5
 have k9_6 := ku hg9 6 k7_6
 have k9_7 := ku hg9 7 k7_7
 have k9_8 := ku hg9 8 k7_8
 have k9_9 := ku hg9 9 k7_9
 have k9_10 := ku hg9 10 k7_10
 have k9_11 := ku hg9 11 k7_11
 have k9_12 := kt hg9 12 (upd_same _ _ _)
 refine wpOps_end ?_
 refine hK8 _ _ ?_
 refine wp_seq_k fun K9 hK9 => ?_
 refine wp_seq_k fun K10 hK10 => ?_
 refine region_dk 10 [(39, 0), (40, 1), (41, 2), (42, 3), (43, 4), (44, 5), (45, 6), (46, 7), (47, 8), (48, 9)] [[], [], [0, 1], [0, 1, 2], [0, 1, 2, 3], [0, 1, 2, 3, 4], [0, 1, 2, 3, 4], [0, 1, 2, 3, 4, 6], [0, 1, 2, 3, 4, 5, 6, 7], [0, 1, 2, 3, 4, 5, 6, 7, 8]] (rel [is (.agg #[.int .i64 b.tab, .slice (some ⟨g1', 0, none⟩) (b.panels.length) (c4'), .int .i64 b.height, .slice (some ⟨g2', 0, none⟩) (b.top.length) (c5'), .slice (some ⟨g3', 0, none⟩) (b.bottom.length) (c6'), .int .i64 b.slot, .bool b.isOpen]),
   is (.agg #[.int .i64 b.tab, .slice (a1) (b.panels.length) (c1), .int .i64 b.height, .slice (a2) (b.top.length) (c2), .slice (a3) (b.bottom.length) (c3), .int .i64 b.slot, .bool b.isOpen]),
   is (.bool true),
   is (.bool false),
   is (.bool false),
   gd (false) false (is (.int .i64 xw)),
   gd (false) false (is (.agg #[.int .i64 l1, .int .i64 (h1'), .int .i64 l2, .int .i64 (h2'), .int .i64 l3, .int .i64 (h3'), .int .i64 l4, .int .i64 (h4'), .int .i64 l5, .int .i64 (h5'), .bool wo])),
   gd (false) false (is (.int .i64 xw)),
   gd (false) false (is (.bool false)),
   is (.bool false)])
  ⟨is_k, is_k, is_k, is_k, is_k, gd_k (is_k), gd_k (is_k), gd_k (is_k), gd_k (is_k), is_k, trivial⟩
  ⟨fun f s W l m p q r j => opv rfl rfl (by simp [go_sem, j.e 7 k9_7, Joins.cell_of_block (blk_below b8_3 l) 0, Joins.cell_of_block (blk_below b8_3 l) 1, Joins.cell_of_block (blk_below b8_3 l) 2, Joins.cell_of_block (blk_below b8_3 l) 3, Joins.cell_of_block (blk_below b8_3 l) 4, Joins.cell_of_block (blk_below b8_3 l) 5, Joins.cell_of_block (blk_below b8_3 l) 6]) rfl,
  fun f s W l m p q r j => opv rfl rfl (by simp [go_sem, j.e 3 k9_3, Joins.cell_of_block (blk_below b8_0 l) 0, Joins.cell_of_block (blk_below b8_0 l) 1, Joins.cell_of_block (blk_below b8_0 l) 2, Joins.cell_of_block (blk_below b8_0 l) 3, Joins.cell_of_block (blk_below b8_0 l) 4, Joins.cell_of_block (blk_below b8_0 l) 5, Joins.cell_of_block (blk_below b8_0 l) 6]) rfl,
  fun f s W l m p q r j => by have u := below_trans fB8 l; exact opDo_call (args := #[.agg #[.int .i64 b.tab, .slice (some ⟨g1', 0, none⟩) (b.panels.length) (c4'), .int .i64 b.height, .slice (some ⟨g2', 0, none⟩) (b.top.length) (c5'), .slice (some ⟨g3', 0, none⟩) (b.bottom.length) (c6'), .int .i64 b.slot, .bool b.isOpen], .agg #[.int .i64 b.tab, .slice (a1) (b.panels.length) (c1), .int .i64 b.height, .slice (a2) (b.top.length) (c2), .slice (a3) (b.bottom.length) (c3), .int .i64 b.slot, .bool b.isOpen]]) rfl rfl (by simp [go_sem, j.e 39 (m 0 rfl), j.e 40 (m 1 rfl)]) (same_blk (b := b) (d := b) ⟨_, _, _, _, _, _, _, _, _, rfl, ((q48'.below l (Nat.le_refl _))), ((q50'.below l (Nat.le_refl _))), ((q52'.below l (Nat.le_refl _)))⟩ ⟨_, _, _, _, _, _, _, _, _, rfl, (h1.below u (Nat.le_refl _)), (h2.below u (Nat.le_refl _)), (h3.below u (Nat.le_refl _))⟩) ((fun e W' h => by have h1 := h.1; rw [sameB_self] at h1; exact ⟨_, h1, h.2, rfl⟩)),
  fun f s W l m p q r j => opv rfl rfl (by simp [go_sem, j.e 41 (m 2 rfl)]) rfl,
  fun f s W l m p q r j => opv rfl rfl (by simp [go_sem, j.e 42 (m 3 rfl)]) rfl,
  fun f s W l m p q r j => gdo rfl rfl (j.says (d := 43) rfl rfl (m 4 rfl)) fun hgd0 => gv (by simp [go_sem, j.e 8 k9_8]) rfl,
  fun f s W l m p q r j => gdo rfl rfl (j.says (d := 43) rfl rfl (m 4 rfl)) fun hgd0 => gv (by simp [go_sem, j.e 4 k9_4, Joins.cell_of_block (blk_below b8_1 l) 0, Joins.cell_of_block (blk_below b8_1 l) 1, Joins.cell_of_block (blk_below b8_1 l) 2, Joins.cell_of_block (blk_below b8_1 l) 3, Joins.cell_of_block (blk_below b8_1 l) 4, Joins.cell_of_block (blk_below b8_1 l) 5, Joins.cell_of_block (blk_below b8_1 l) 6, Joins.cell_of_block (blk_below b8_1 l) 7, Joins.cell_of_block (blk_below b8_1 l) 8, Joins.cell_of_block (blk_below b8_1 l) 9, Joins.cell_of_block (blk_below b8_1 l) 10]) rfl,
  fun f s W l m p q r j => gdo rfl rfl (j.says (d := 43) rfl rfl (m 4 rfl)) fun hgd0 => wp_called (by simp [go_sem, j.e 45 ((m 6 rfl).1 hgd0)]) (wishR_any l1 h1' l2 h2' l3 h3' l4 h4' l5 h5' wo W) ((fun e W' h => by have h1 := h.1; rw [wishR_eq, hxw] at h1; exact ⟨_, h1, h.2, rfl⟩)),
  fun f s W l m p q r j => gdo rfl rfl (j.says (d := 43) rfl rfl (m 4 rfl)) fun hgd0 => gv (by simp [go_sem, j.e 44 ((m 5 rfl).1 hgd0), j.e 46 ((m 7 rfl).1 hgd0)]) rfl,
  fun f s W l m p q r j => opk (c := false) rfl rfl (fun _ => by simp [go_sem, j.e 43 (m 4 rfl), j.e 47 ((m 8 rfl).1 rfl)]) (fun h => absurd h (by decide)), trivial⟩ ?_
 intro f10 s10 W10 hB10 g10 hg10
 have fB10 := below_trans fB8 hB10.below
 have z10 := hB10.below.size
 have b10_0 := blk_below b8_0 hB10.below
 have b10_1 := blk_below b8_1 hB10.below
 have b10_2 := blk_below b8_2 hB10.below
 have b10_3 := blk_below b8_3 hB10.below
 have b10_4 := blk_below nb8 hB10.below
 have q55' := (q48'.below hB10.below (Nat.le_refl _))
 have q56' := (Nat.lt_of_lt_of_le q49' (Below.size hB10.below))
 have q57' := (q50'.below hB10.below (Nat.le_refl _))
 have q58' := (Nat.lt_of_lt_of_le q51' (Below.size hB10.below))
 have q59' := (q52'.below hB10.below (Nat.le_refl _))
 have q60' := (Nat.lt_of_lt_of_le q53' (Below.size hB10.below))
 have q61' := (q54'.below hB10.below (Nat.le_refl _))
 refine hK10 _ _ ?_
 have k10_3 := kt hg10 3 k9_3
 have k10_4 := kt hg10 4 k9_4
 have k10_5 := kt hg10 5 k9_5
 have k10_6 := kt hg10 6 k9_6
 have k10_9 := kt hg10 9 k9_9
 have k10_10 := kt hg10 10 k9_10
 have k10_11 := kt hg10 11 k9_11
 have k10_12 := kt hg10 12 k9_12
 have k10_48 := kt hg10 48 (hB10.is 9)
 refine wp_cond_false ((fr_eval rfl).trans k10_48) ?_
 refine wp_skip ?_
 refine hK9 _ _ ?_
 refine wp_seq_k fun K12 hK12 => ?_
 refine region_dk 5 [(49, 0), (50, 1), (51, 2), (52, 3), (13, 4)] [[], [], [], [0, 1, 2], [0, 1, 2, 3]] (rel [is (.agg #[.int .i64 b.tab, .slice (a1) (b.panels.length) (c1), .int .i64 b.height, .slice (a2) (b.top.length) (c2), .slice (a3) (b.bottom.length) (c3), .int .i64 b.slot, .bool b.isOpen]),
   is (.agg #[.int .i64 l1, .int .i64 (h1'), .int .i64 l2, .int .i64 (h2'), .int .i64 l3, .int .i64 (h3'), .int .i64 l4, .int .i64 (h4'), .int .i64 l5, .int .i64 (h5'), .bool wo]),
   is (.agg #[.int .i64 1, .int .i64 1]),
   is (.int .i64 E1),
   is (.int .i64 E1)])
  ⟨is_k, is_k, is_k, is_k, is_k, trivial⟩
  ⟨fun f s W l m p q r j => opv rfl rfl (by simp [go_sem, j.e 3 k10_3, Joins.cell_of_block (blk_below b10_0 l) 0, Joins.cell_of_block (blk_below b10_0 l) 1, Joins.cell_of_block (blk_below b10_0 l) 2, Joins.cell_of_block (blk_below b10_0 l) 3, Joins.cell_of_block (blk_below b10_0 l) 4, Joins.cell_of_block (blk_below b10_0 l) 5, Joins.cell_of_block (blk_below b10_0 l) 6]) rfl,
  fun f s W l m p q r j => opv rfl rfl (by simp [go_sem, j.e 4 k10_4, Joins.cell_of_block (blk_below b10_1 l) 0, Joins.cell_of_block (blk_below b10_1 l) 1, Joins.cell_of_block (blk_below b10_1 l) 2, Joins.cell_of_block (blk_below b10_1 l) 3, Joins.cell_of_block (blk_below b10_1 l) 4, Joins.cell_of_block (blk_below b10_1 l) 5, Joins.cell_of_block (blk_below b10_1 l) 6, Joins.cell_of_block (blk_below b10_1 l) 7, Joins.cell_of_block (blk_below b10_1 l) 8, Joins.cell_of_block (blk_below b10_1 l) 9, Joins.cell_of_block (blk_below b10_1 l) 10]) rfl,
  fun f s W l m p q r j => opc rfl rfl (by simp [go_sem]) (span_any (1) (1) W),
  fun f s W l m p q r j => by have u := below_trans fB10 l; exact opDo_call rfl rfl (by simp [go_sem, j.e 49 (m 0 rfl), j.e 50 (m 1 rfl), j.e 51 (m 2 rfl)]) (askedR_any a1 a2 a3 c1 c2 c3 b l1 h1' l2 h2' l3 h3' l4 h4' l5 h5' wo 1 1 W (h1.below u (Nat.le_refl _)) (h2.below u (Nat.le_refl _)) (h3.below u (Nat.le_refl _))) ((fun e W' h => by have h1 := h.1; rw [askedR_eq, wishedErr_one, hE1] at h1; exact ⟨_, h1, h.2, rfl⟩)),
  fun f s W l m p q r j => opv rfl rfl (by simp [go_sem, j.e 52 (m 3 rfl)]) rfl, trivial⟩ ?_
 intro f11 s11 W11 hB11 g11 hg11
 have fB11 := below_trans fB10 hB11.below
 have z11 := hB11.below.size
 have b11_0 := blk_below b10_0 hB11.below
 have b11_1 := blk_below b10_1 hB11.below
 have b11_2 := blk_below b10_2 hB11.below
 have b11_3 := blk_below b10_3 hB11.below
 have b11_4 := blk_below b10_4 hB11.below
 have q62' := (q55'.below hB11.below (Nat.le_refl _))
 have q63' := (Nat.lt_of_lt_of_le q56' (Below.size hB11.below))
 have q64' := (q57'.below hB11.below (Nat.le_refl _))
 have q65' := (Nat.lt_of_lt_of_le q58' (Below.size hB11.below))
 have q66' := (q59'.below hB11.below (Nat.le_refl _))
 have q67' := (Nat.lt_of_lt_of_le q60' (Below.size hB11.below))
 have q68' := (q61'.below hB11.below (Nat.le_refl _))
 refine hK12 _ _ ?_
 have k11_3 := kt hg11 3 k10_3
 have k11_4 := kt hg11 4 k10_4
 have k11_5 := kt hg11 5 k10_5
 have k11_6 := kt hg11 6 k10_6
 have k11_9 := kt hg11 9 k10_9
 have k11_10 := kt hg11 10 k10_10
 have k11_11 := kt hg11 11 k10_11
 have k11_12 := kt hg11 12 k10_12
 have k11_13 := kt hg11 13 (hB11.is 4)
 refine wp_seq_k fun K13 hK13 => ?_
 suffices J69' : ∀ (g_ : Nat → Value) (W_ : World), (g_ 3 = .pointer (some ⟨(s1 0), 0, none⟩) ∧ g_ 4 = .pointer (some ⟨(s1 1), 0, none⟩) ∧ g_ 5 = .pointer (some ⟨(s1 2), 0, none⟩) ∧ g_ 6 = .bool false ∧ g_ 9 = .slice (a37') (L.length) (c38') ∧ g_ 10 = .int .i64 E2 ∧ g_ 13 = .int .i64 E1 ∧ Below w.heap.size w W_ ∧ W11.heap.size ≤ W_.heap.size ∧ W_.heap[(s1 0)]? = some (.cells #[.int .i64 b.tab, .slice (a1) (b.panels.length) (c1), .int .i64 b.height, .slice (a2) (b.top.length) (c2), .slice (a3) (b.bottom.length) (c3), .int .i64 b.slot, .bool b.isOpen] 24 (0, 0)) ∧ W_.heap[(s1 1)]? = some (.cells #[.int .i64 l1, .int .i64 (h1'), .int .i64 l2, .int .i64 (h2'), .int .i64 l3, .int .i64 (h3'), .int .i64 l4, .int .i64 (h4'), .int .i64 l5, .int .i64 (h5'), .bool wo] 43 (0, 0)) ∧ W_.heap[(s1 2)]? = some (.cells #[.int .i64 lo, .int .i64 hi] 26 (0, 0)) ∧ W_.heap[(s3 2)]? = some (.cells #[.int .i64 b.tab, .slice (some ⟨g1', 0, none⟩) (b.panels.length) (c4'), .int .i64 b.height, .slice (some ⟨g2', 0, none⟩) (b.top.length) (c5'), .slice (some ⟨g3', 0, none⟩) (b.bottom.length) (c6'), .int .i64 b.slot, .bool b.isOpen] 24 (0, 0)) ∧ W_.heap[(s7 6)]? = some (.cells #[.int .i64 q1, .int .i64 q2] 26 (0, 0)) ∧ Ii W_ (some ⟨g1', 0, none⟩) (b).panels.length c4' (b).panels ∧ g1' < W_.heap.size ∧ Ii W_ (some ⟨g2', 0, none⟩) (b).top.length c5' (b).top ∧ g2' < W_.heap.size ∧ Ii W_ (some ⟨g3', 0, none⟩) (b).bottom.length c6' (b).bottom ∧ g3' < W_.heap.size ∧ Pp W_ a37' L.length c38' L) → K13 (fr 132 g_) W_ by
  refine wp_seq_k fun K14 hK14 => ?_
  refine region_dk 2 [(53, 0), (54, 1)] [[], [0]] (rel [is (.int .i64 E1),
   is (.bool (E1 == 0))])
   ⟨is_k, is_k, trivial⟩
   ⟨fun f s W l m p q r j => opv rfl rfl (by simp [go_sem, j.e 13 k11_13]) rfl,
  fun f s W l m p q r j => opv rfl rfl (by simp [go_sem, j.e 53 (m 0 rfl)]) rfl, trivial⟩ ?_
  intro f12 s12 W12 hB12 g12 hg12
  have fB12 := below_trans fB11 hB12.below
  have z12 := hB12.below.size
  have b12_0 := blk_below b11_0 hB12.below
  have b12_1 := blk_below b11_1 hB12.below
  have b12_2 := blk_below b11_2 hB12.below
  have b12_3 := blk_below b11_3 hB12.below
  have b12_4 := blk_below b11_4 hB12.below
  have q70' := (q62'.below hB12.below (Nat.le_refl _))
  have q71' := (Nat.lt_of_lt_of_le q63' (Below.size hB12.below))
  have q72' := (q64'.below hB12.below (Nat.le_refl _))
  have q73' := (Nat.lt_of_lt_of_le q65' (Below.size hB12.below))
  have q74' := (q66'.below hB12.below (Nat.le_refl _))
  have q75' := (Nat.lt_of_lt_of_le q67' (Below.size hB12.below))
  have q76' := (q68'.below hB12.below (Nat.le_refl _))
  refine hK14 _ _ ?_
  have k12_3 := kt hg12 3 k11_3
  have k12_4 := kt hg12 4 k11_4
  have k12_5 := kt hg12 5 k11_5
  have k12_6 := kt hg12 6 k11_6
  have k12_9 := kt hg12 9 k11_9
  have k12_10 := kt hg12 10 k11_10
  have k12_11 := kt hg12 11 k11_11
  have k12_12 := kt hg12 12 k11_12
  have k12_13 := kt hg12 13 k11_13
  have k12_54 := kt hg12 54 (hB12.is 1)
  refine wp_cond_split (t := E1 == 0) ((fr_eval rfl).trans k12_54) (fun hc15 => ?_) (fun hc15 => ?_)
  ·
   have hc15' := hc15; try simp only [decide_eq_true_eq, decide_eq_false_iff_not, Bool.and_eq_true, Bool.or_eq_true, Bool.and_eq_false_iff, Bool.or_eq_false_iff, beq_iff_eq, bne_iff_ne, Bool.not_eq_true', Bool.not_eq_false', ne_eq, bne_eq_false_iff_eq, beq_eq_false_iff_ne] at hc15'
   have hE1' : wishedErr b ⟨(l1, h1'), (l2, h2'), (l3, h3'), (l4, h4'), (l5, h5'), wo⟩ [] = 0 := by rw [hE1]; exact beq_iff_eq.1 hc15
   obtain ⟨hck, hxw'⟩ := wished_parts hE1'
   have hwi := wish_in hxw'
   have hF' := calErr_or hE1'
   rw [hF] at hF'
   rcases hF' with hF' | hF'
   ·
    subst hF'
    refine wp_seq_k fun K16 hK16 => ?_
    refine region_dk 7 [(56, 0), (57, 1), (58, 2), (55, 3), (59, 4), (60, 5), (14, 6), (15, 8)] [[], [], [0, 1], [0, 1, 2], [0, 1, 2, 3], [0, 1, 2, 3], [], [0, 1, 2, 3, 4, 6], [0, 1, 2, 3, 4, 5, 6, 7]] (rel [is (.agg #[.int .i64 b.tab, .slice (a1) (b.panels.length) (c1), .int .i64 b.height, .slice (a2) (b.top.length) (c2), .slice (a3) (b.bottom.length) (c3), .int .i64 b.slot, .bool b.isOpen]),
   is (.agg #[.int .i64 l1, .int .i64 (h1'), .int .i64 l2, .int .i64 (h2'), .int .i64 l3, .int .i64 (h3'), .int .i64 l4, .int .i64 (h4'), .int .i64 l5, .int .i64 (h5'), .bool wo]),
   is (.tuple #[.agg #[.int .i64 q1, .int .i64 q2], .bool true]),
   is (.tuple #[.agg #[.int .i64 q1, .int .i64 q2], .bool true]),
   is (.agg #[.int .i64 q1, .int .i64 q2]),
   is (.bool true),
   bx 6 #[.int .i64 0, .int .i64 0] 26])
     ⟨is_k, is_k, is_k, is_k, is_k, is_k, bx_k, trivial⟩
     ⟨fun f s W l m p q r j => opv rfl rfl (by simp [go_sem, j.e 3 k12_3, Joins.cell_of_block (blk_below b12_0 l) 0, Joins.cell_of_block (blk_below b12_0 l) 1, Joins.cell_of_block (blk_below b12_0 l) 2, Joins.cell_of_block (blk_below b12_0 l) 3, Joins.cell_of_block (blk_below b12_0 l) 4, Joins.cell_of_block (blk_below b12_0 l) 5, Joins.cell_of_block (blk_below b12_0 l) 6]) rfl,
  fun f s W l m p q r j => opv rfl rfl (by simp [go_sem, j.e 4 k12_4, Joins.cell_of_block (blk_below b12_1 l) 0, Joins.cell_of_block (blk_below b12_1 l) 1, Joins.cell_of_block (blk_below b12_1 l) 2, Joins.cell_of_block (blk_below b12_1 l) 3, Joins.cell_of_block (blk_below b12_1 l) 4, Joins.cell_of_block (blk_below b12_1 l) 5, Joins.cell_of_block (blk_below b12_1 l) 6, Joins.cell_of_block (blk_below b12_1 l) 7, Joins.cell_of_block (blk_below b12_1 l) 8, Joins.cell_of_block (blk_below b12_1 l) 9, Joins.cell_of_block (blk_below b12_1 l) 10]) rfl,
  fun f s W l m p q r j => by have u := below_trans fB12 l; exact opDo_call rfl rfl (by simp [go_sem, j.e 56 (m 0 rfl), j.e 57 (m 1 rfl)]) (calR_any a1 a2 a3 c1 c2 c3 b l1 h1' l2 h2' l3 h3' l4 h4' l5 h5' wo W (h1.below u (Nat.le_refl _)) (h2.below u (Nat.le_refl _)) (h3.below u (Nat.le_refl _)) hck hwi) ((fun e W' h => by have h1 := h.1; rw [calR_eq hE1', hq, hF] at h1; exact ⟨_, h1, h.2, rfl⟩)),
  fun f s W l m p q r j => opv rfl rfl (by simp [go_sem, j.e 58 (m 2 rfl)]) rfl,
  fun f s W l m p q r j => opv rfl rfl (by simp [go_sem, j.e 55 (m 3 rfl)]) rfl,
  fun f s W l m p q r j => opv rfl rfl (by simp [go_sem, j.e 55 (m 3 rfl)]) rfl,
  fun f s W l m p q r j => opb rfl rfl (by simp [go_sem]), trivial⟩ ?_
    intro f13 s13 W13 hB13 g13 hg13
    have fB13 := below_trans fB12 hB13.below
    have z13 := hB13.below.size
    have b13_0 := blk_below b12_0 hB13.below
    have b13_1 := blk_below b12_1 hB13.below
    have b13_2 := blk_below b12_2 hB13.below
    have b13_3 := blk_below b12_3 hB13.below
    have b13_4 := blk_below b12_4 hB13.below
    have q77' := (q70'.below hB13.below (Nat.le_refl _))
    have q78' := (Nat.lt_of_lt_of_le q71' (Below.size hB13.below))
    have q79' := (q72'.below hB13.below (Nat.le_refl _))
    have q80' := (Nat.lt_of_lt_of_le q73' (Below.size hB13.below))
    have q81' := (q74'.below hB13.below (Nat.le_refl _))
    have q82' := (Nat.lt_of_lt_of_le q75' (Below.size hB13.below))
    have q83' := (q76'.below hB13.below (Nat.le_refl _))
    obtain ⟨r13_6, br13_6⟩ := hB13.is 6
    have lr13_6 := hB13.lr 6 br13_6
    have k13_3 := kt hg13 3 k12_3
    have k13_4 := kt hg13 4 k12_4
    have k13_5 := kt hg13 5 k12_5
    have k13_6 := kt hg13 6 k12_6
    have k13_9 := kt hg13 9 k12_9
    have k13_10 := kt hg13 10 k12_10
    have k13_11 := kt hg13 11 k12_11
    have k13_12 := kt hg13 12 k12_12
    have k13_13 := kt hg13 13 k12_13
    have k13_59 := kt hg13 59 (hB13.is 4)
    have k13_60 := kt hg13 60 (hB13.is 5)
    have k13_14 := kt hg13 14 r13_6
    obtain ⟨W14, hW14⟩ : ∃ W', W' = W13.setRow (s13 6) #[.int .i64 q1, .int .i64 q2] := ⟨_, rfl⟩
    refine tail_skip (o := _) rfl ⟨rfl, rfl⟩ (run_seg hW14 (fr_ev k13_14) (fr_ev k13_59) br13_6 rfl rfl rfl rfl) ?_
    obtain ⟨fB14, nb14, ot14, z14⟩ := seg_facts hW14 fB13 br13_6 (by omega)
    clear hW14
    have b14_0 := ot14 _ _ (by omega) b13_0
    have b14_1 := ot14 _ _ (by omega) b13_1
    have b14_2 := ot14 _ _ (by omega) b13_2
    have b14_3 := ot14 _ _ (by omega) b13_3
    have b14_4 := ot14 _ _ (by omega) b13_4
    have q84' := (q77'.other ot14 q78' (by omega) z14)
    have q85' := Nat.lt_of_lt_of_le q78' z14
    have q86' := (q79'.other ot14 q80' (by omega) z14)
    have q87' := Nat.lt_of_lt_of_le q80' z14
    have q88' := (q81'.other ot14 q82' (by omega) z14)
    have q89' := Nat.lt_of_lt_of_le q82' z14
    have q90' := (q83'.otherA ot14 (fun g o e hx => by have := lim40' g o e hx; omega) z14)
    refine tail_value (o := _) rfl rfl rfl (v := .bool true) (by simp [go_sem, frv 132 k13_60]) ?_
    generalize hg15 : upd g13 15 (.bool true) = g15
    have k15_3 := ku hg15 3 k13_3
    have k15_4 := ku hg15 4 k13_4
    have k15_5 := ku hg15 5 k13_5
    have k15_6 := ku hg15 6 k13_6
    have k15_9 := ku hg15 9 k13_9
    have k15_10 := ku hg15 10 k13_10
    have k15_11 := ku hg15 11 k13_11
    have k15_12 := ku hg15 12 k13_12
    have k15_13 := ku hg15 13 k13_13
    have k15_14 := ku hg15 14 k13_14
    have k15_15 := kt hg15 15 (upd_same _ _ _)
    refine wpOps_end ?_
    refine hK16 _ _ ?_
    refine wp_seq_k fun K17 hK17 => ?_
    refine region_dk 17 [(61, 0), (62, 1), (63, 2), (64, 3), (65, 4), (66, 5), (67, 6), (68, 7), (69, 8), (70, 9), (71, 10), (72, 11), (73, 12), (74, 13), (75, 14), (76, 15), (77, 16)] [[], [], [1], [0, 1, 2], [0, 1, 2, 3], [0, 1, 2, 3, 4], [0, 1, 2, 3, 4, 5], [0, 1, 2, 3, 4, 5, 6], [0, 1, 2, 3, 4, 5, 6, 7], [0, 1, 2, 3, 4, 5, 6, 7, 8], [0, 1, 2, 3, 4, 5, 6, 7, 8, 9], [0, 1, 2, 3, 4, 5, 6, 7, 8, 9, 10], [0, 1, 2, 3, 4, 5, 6, 7, 8, 9, 10, 11], [0, 1, 2, 3, 4, 5, 6, 7, 8, 9, 10, 11, 12], [0, 1, 2, 3, 4, 5, 6, 7, 8, 9, 10, 11, 12], [0, 1, 2, 3, 4, 5, 6, 7, 8, 9, 10, 11, 12, 13, 14], [0, 1, 2, 3, 4, 5, 6, 7, 8, 9, 10, 11, 12, 13, 14, 15]] (rel [is (.bool true),
   is (.int .i64 0),
   is (.bool true),
   is (.bool false),
   is (.bool false),
   gd (false) false (is (.bool true)),
   gd (false) false (is (.bool false)),
   gd (false) false (is (.bool false)),
   gd (false) false (gd (false) true (is (.int .i64 0))),
   gd (false) false (gd (false) true (is (.bool true))),
   gd (false) false (is (.bool false)),
   is (.bool false),
   is (.bool false),
   gd (false) false (is (.agg #[.int .i64 q1, .int .i64 q2])),
   gd (false) false (is (.agg #[.int .i64 q1, .int .i64 q2])),
   gd (false) false (is (.bool false)),
   is (.bool false)])
     ⟨is_k, is_k, is_k, is_k, is_k, gd_k (is_k), gd_k (is_k), gd_k (is_k), gd_k (gd_k (is_k)), gd_k (gd_k (is_k)), gd_k (is_k), is_k, is_k, gd_k (is_k), gd_k (is_k), gd_k (is_k), is_k, trivial⟩
     ⟨fun f s W l m p q r j => opv rfl rfl (by simp [go_sem, j.e 15 k15_15]) rfl,
  fun f s W l m p q r j => opv rfl rfl (by simp [go_sem, j.e 12 k15_12]) rfl,
  fun f s W l m p q r j => opv rfl rfl (by simp [go_sem, j.e 62 (m 1 rfl)]) rfl,
  fun f s W l m p q r j => opv rfl rfl (by simp [go_sem, j.e 61 (m 0 rfl), j.e 63 (m 2 rfl)]) rfl,
  fun f s W l m p q r j => opv rfl rfl (by simp [go_sem, j.e 64 (m 3 rfl)]) rfl,
  fun f s W l m p q r j => gdo rfl rfl (j.says (d := 65) rfl rfl (m 4 rfl)) fun hgd0 => gv (by simp [go_sem, j.e 15 k15_15]) rfl,
  fun f s W l m p q r j => gdo rfl rfl (j.says (d := 65) rfl rfl (m 4 rfl)) fun hgd0 => gv (by simp [go_sem, j.e 66 ((m 5 rfl).1 hgd0)]) rfl,
  fun f s W l m p q r j => gdo rfl rfl (j.says (d := 65) rfl rfl (m 4 rfl)) fun hgd0 => gv (by simp [go_sem, j.e 67 ((m 6 rfl).1 hgd0)]) rfl,
  fun f s W l m p q r j => gdo2 rfl rfl j (d := 68) rfl rfl (m 7 rfl) fun hgd0 hgd1 => gv (by simp [go_sem, j.e 12 k15_12]) rfl,
  fun f s W l m p q r j => gdo2 rfl rfl j (d := 68) rfl rfl (m 7 rfl) fun hgd0 hgd1 => gv (by simp [go_sem, j.e 69 (((m 8 rfl).1 hgd0).1 hgd1)]) rfl,
  fun f s W l m p q r j => gdo rfl rfl (j.says (d := 65) rfl rfl (m 4 rfl)) fun hgd0 => gk (c := false) (fun _ => by simp [go_sem, j.e 68 ((m 7 rfl).1 hgd0)]) (fun h => absurd h (by decide)),
  fun f s W l m p q r j => opk (c := false) rfl rfl (fun _ => by simp [go_sem, j.e 65 (m 4 rfl), j.e 71 ((m 10 rfl).1 rfl)]) (fun h => absurd h (by decide)),
  fun f s W l m p q r j => opv rfl rfl (by simp [go_sem, j.e 72 (m 11 rfl)]) rfl,
  fun f s W l m p q r j => gdo rfl rfl (j.says (d := 73) rfl rfl (m 12 rfl)) fun hgd0 => gv (by simp [go_sem, j.e 11 k15_11, Joins.cell_of_block (blk_below b14_4 l) 0, Joins.cell_of_block (blk_below b14_4 l) 1]) rfl,
  fun f s W l m p q r j => gdo rfl rfl (j.says (d := 73) rfl rfl (m 12 rfl)) fun hgd0 => gv (by simp [go_sem, j.e 14 k15_14, Joins.cell_of_block (blk_below nb14 l) 0, Joins.cell_of_block (blk_below nb14 l) 1]) rfl,
  fun f s W l m p q r j => gdo rfl rfl (j.says (d := 73) rfl rfl (m 12 rfl)) fun hgd0 => gv (by simp [go_sem, j.e 74 ((m 13 rfl).1 hgd0), j.e 75 ((m 14 rfl).1 hgd0)]) rfl,
  fun f s W l m p q r j => opk (c := false) rfl rfl (fun _ => by simp [go_sem, j.e 73 (m 12 rfl), j.e 76 ((m 15 rfl).1 rfl)]) (fun h => absurd h (by decide)), trivial⟩ ?_
    intro f16 s16 W16 hB16 g16 hg16
    have fB16 := below_trans fB14 hB16.below
    have z16 := hB16.below.size
    have b16_0 := blk_below b14_0 hB16.below
    have b16_1 := blk_below b14_1 hB16.below
    have b16_2 := blk_below b14_2 hB16.below
    have b16_3 := blk_below b14_3 hB16.below
    have b16_4 := blk_below b14_4 hB16.below
    have b16_5 := blk_below nb14 hB16.below
    have q91' := (q84'.below hB16.below (Nat.le_refl _))
    have q92' := (Nat.lt_of_lt_of_le q85' (Below.size hB16.below))
    have q93' := (q86'.below hB16.below (Nat.le_refl _))
    have q94' := (Nat.lt_of_lt_of_le q87' (Below.size hB16.below))
    have q95' := (q88'.below hB16.below (Nat.le_refl _))
    have q96' := (Nat.lt_of_lt_of_le q89' (Below.size hB16.below))
    have q97' := (q90'.below hB16.below (Nat.le_refl _))
    refine hK17 _ _ ?_
    have k16_3 := kt hg16 3 k15_3
    have k16_4 := kt hg16 4 k15_4
    have k16_5 := kt hg16 5 k15_5
    have k16_6 := kt hg16 6 k15_6
    have k16_9 := kt hg16 9 k15_9
    have k16_10 := kt hg16 10 k15_10
    have k16_13 := kt hg16 13 k15_13
    have k16_77 := kt hg16 77 (hB16.is 16)
    refine wp_cond_false ((fr_eval rfl).trans k16_77) ?_
    refine wp_skip ?_
    exact J69' _ _ ⟨k16_3, k16_4, k16_5, k16_6, k16_9, k16_10, k16_13, fB16, (by omega), b16_0, b16_1, b16_2, b16_3, b16_4, q91', q92', q93', q94', q95', q96', q97'⟩
   ·
    subst hF'
    obtain ⟨rfl, rfl⟩ : q1 = 0 ∧ q2 = 0 := by have hb' := calOf_bad (b := b) (w := ⟨(l1, h1'), (l2, h2'), (l3, h3'), (l4, h4'), (l5, h5'), wo⟩) (by rw [hF]; decide); rw [hq] at hb'; exact ⟨(Prod.mk.inj hb').1, (Prod.mk.inj hb').2⟩
    refine wp_seq_k fun K19 hK19 => ?_
    refine region_dk 7 [(56, 0), (57, 1), (58, 2), (55, 3), (59, 4), (60, 5), (14, 6), (15, 8)] [[], [], [0, 1], [0, 1, 2], [0, 1, 2, 3], [0, 1, 2, 3], [], [0, 1, 2, 3, 4, 6], [0, 1, 2, 3, 4, 5, 6, 7]] (rel [is (.agg #[.int .i64 b.tab, .slice (a1) (b.panels.length) (c1), .int .i64 b.height, .slice (a2) (b.top.length) (c2), .slice (a3) (b.bottom.length) (c3), .int .i64 b.slot, .bool b.isOpen]),
   is (.agg #[.int .i64 l1, .int .i64 (h1'), .int .i64 l2, .int .i64 (h2'), .int .i64 l3, .int .i64 (h3'), .int .i64 l4, .int .i64 (h4'), .int .i64 l5, .int .i64 (h5'), .bool wo]),
   is (.tuple #[.agg #[.int .i64 0, .int .i64 0], .bool false]),
   is (.tuple #[.agg #[.int .i64 0, .int .i64 0], .bool false]),
   is (.agg #[.int .i64 0, .int .i64 0]),
   is (.bool false),
   bx 6 #[.int .i64 0, .int .i64 0] 26])
     ⟨is_k, is_k, is_k, is_k, is_k, is_k, bx_k, trivial⟩
     ⟨fun f s W l m p q r j => opv rfl rfl (by simp [go_sem, j.e 3 k12_3, Joins.cell_of_block (blk_below b12_0 l) 0, Joins.cell_of_block (blk_below b12_0 l) 1, Joins.cell_of_block (blk_below b12_0 l) 2, Joins.cell_of_block (blk_below b12_0 l) 3, Joins.cell_of_block (blk_below b12_0 l) 4, Joins.cell_of_block (blk_below b12_0 l) 5, Joins.cell_of_block (blk_below b12_0 l) 6]) rfl,
  fun f s W l m p q r j => opv rfl rfl (by simp [go_sem, j.e 4 k12_4, Joins.cell_of_block (blk_below b12_1 l) 0, Joins.cell_of_block (blk_below b12_1 l) 1, Joins.cell_of_block (blk_below b12_1 l) 2, Joins.cell_of_block (blk_below b12_1 l) 3, Joins.cell_of_block (blk_below b12_1 l) 4, Joins.cell_of_block (blk_below b12_1 l) 5, Joins.cell_of_block (blk_below b12_1 l) 6, Joins.cell_of_block (blk_below b12_1 l) 7, Joins.cell_of_block (blk_below b12_1 l) 8, Joins.cell_of_block (blk_below b12_1 l) 9, Joins.cell_of_block (blk_below b12_1 l) 10]) rfl,
  fun f s W l m p q r j => by have u := below_trans fB12 l; exact opDo_call rfl rfl (by simp [go_sem, j.e 56 (m 0 rfl), j.e 57 (m 1 rfl)]) (calR_any a1 a2 a3 c1 c2 c3 b l1 h1' l2 h2' l3 h3' l4 h4' l5 h5' wo W (h1.below u (Nat.le_refl _)) (h2.below u (Nat.le_refl _)) (h3.below u (Nat.le_refl _)) hck hwi) ((fun e W' h => by have h1 := h.1; rw [calR_eq hE1', hq, hF] at h1; exact ⟨_, h1, h.2, rfl⟩)),
  fun f s W l m p q r j => opv rfl rfl (by simp [go_sem, j.e 58 (m 2 rfl)]) rfl,
  fun f s W l m p q r j => opv rfl rfl (by simp [go_sem, j.e 55 (m 3 rfl)]) rfl,
  fun f s W l m p q r j => opv rfl rfl (by simp [go_sem, j.e 55 (m 3 rfl)]) rfl,
  fun f s W l m p q r j => opb rfl rfl (by simp [go_sem]), trivial⟩ ?_
    intro f17 s17 W17 hB17 g17 hg17
    have fB17 := below_trans fB12 hB17.below
    have z17 := hB17.below.size
    have b17_0 := blk_below b12_0 hB17.below
    have b17_1 := blk_below b12_1 hB17.below
    have b17_2 := blk_below b12_2 hB17.below
    have b17_3 := blk_below b12_3 hB17.below
    have b17_4 := blk_below b12_4 hB17.below
    have q98' := (q70'.below hB17.below (Nat.le_refl _))
    have q99' := (Nat.lt_of_lt_of_le q71' (Below.size hB17.below))
    have q100' := (q72'.below hB17.below (Nat.le_refl _))
    have q101' := (Nat.lt_of_lt_of_le q73' (Below.size hB17.below))
    have q102' := (q74'.below hB17.below (Nat.le_refl _))
    have q103' := (Nat.lt_of_lt_of_le q75' (Below.size hB17.below))
    have q104' := (q76'.below hB17.below (Nat.le_refl _))
    obtain ⟨r17_6, br17_6⟩ := hB17.is 6
    have lr17_6 := hB17.lr 6 br17_6
    have k17_3 := kt hg17 3 k12_3
    have k17_4 := kt hg17 4 k12_4
    have k17_5 := kt hg17 5 k12_5
    have k17_6 := kt hg17 6 k12_6
    have k17_9 := kt hg17 9 k12_9
    have k17_10 := kt hg17 10 k12_10
    have k17_11 := kt hg17 11 k12_11
    have k17_12 := kt hg17 12 k12_12
    have k17_13 := kt hg17 13 k12_13
    have k17_59 := kt hg17 59 (hB17.is 4)
    have k17_60 := kt hg17 60 (hB17.is 5)
    have k17_14 := kt hg17 14 r17_6
    obtain ⟨W18, hW18⟩ : ∃ W', W' = W17.setRow (s17 6) #[.int .i64 0, .int .i64 0] := ⟨_, rfl⟩
    refine tail_skip (o := _) rfl ⟨rfl, rfl⟩ (run_seg hW18 (fr_ev k17_14) (fr_ev k17_59) br17_6 rfl rfl rfl rfl) ?_
    obtain ⟨fB18, nb18, ot18, z18⟩ := seg_facts hW18 fB17 br17_6 (by omega)
    clear hW18
    have b18_0 := ot18 _ _ (by omega) b17_0
    have b18_1 := ot18 _ _ (by omega) b17_1
    have b18_2 := ot18 _ _ (by omega) b17_2
    have b18_3 := ot18 _ _ (by omega) b17_3
    have b18_4 := ot18 _ _ (by omega) b17_4
    have q105' := (q98'.other ot18 q99' (by omega) z18)
    have q106' := Nat.lt_of_lt_of_le q99' z18
    have q107' := (q100'.other ot18 q101' (by omega) z18)
    have q108' := Nat.lt_of_lt_of_le q101' z18
    have q109' := (q102'.other ot18 q103' (by omega) z18)
    have q110' := Nat.lt_of_lt_of_le q103' z18
    have q111' := (q104'.otherA ot18 (fun g o e hx => by have := lim40' g o e hx; omega) z18)
    refine tail_value (o := _) rfl rfl rfl (v := .bool false) (by simp [go_sem, frv 132 k17_60]) ?_
    generalize hg19 : upd g17 15 (.bool false) = g19
    have k19_3 := ku hg19 3 k17_3
    have k19_4 := ku hg19 4 k17_4
    have k19_5 := ku hg19 5 k17_5
    have k19_6 := ku hg19 6 k17_6
    have k19_9 := ku hg19 9 k17_9
    have k19_10 := ku hg19 10 k17_10
    have k19_11 := ku hg19 11 k17_11
    have k19_12 := ku hg19 12 k17_12
    have k19_13 := ku hg19 13 k17_13
    have k19_14 := ku hg19 14 k17_14
    have k19_15 := kt hg19 15 (upd_same _ _ _)
    refine wpOps_end ?_
    refine hK19 _ _ ?_
    refine wp_seq_k fun K20 hK20 => ?_
    refine region_dk 17 [(61, 0), (62, 1), (63, 2), (64, 3), (65, 4), (66, 5), (67, 6), (68, 7), (69, 8), (70, 9), (71, 10), (72, 11), (73, 12), (74, 13), (75, 14), (76, 15), (77, 16)] [[], [], [1], [0, 1, 2], [0, 1, 2, 3], [0, 1, 2, 3, 4], [0, 1, 2, 3, 4, 5], [0, 1, 2, 3, 4, 5, 6], [0, 1, 2, 3, 4, 5, 6, 7], [0, 1, 2, 3, 4, 5, 6, 7, 8], [0, 1, 2, 3, 4, 5, 6, 7, 8, 9], [0, 1, 2, 3, 4, 5, 6, 7, 8, 9, 10], [0, 1, 2, 3, 4, 5, 6, 7, 8, 9, 10, 11], [0, 1, 2, 3, 4, 5, 6, 7, 8, 9, 10, 11, 12], [0, 1, 2, 3, 4, 5, 6, 7, 8, 9, 10, 11, 12], [0, 1, 2, 3, 4, 5, 6, 7, 8, 9, 10, 11, 12, 13, 14], [0, 1, 2, 3, 4, 5, 6, 7, 8, 9, 10, 11, 12, 13, 14, 15]] (rel [is (.bool false),
   is (.int .i64 7),
   is (.bool false),
   is (.bool false),
   is (.bool false),
   gd (false) false (is (.bool false)),
   gd (false) false (is (.bool true)),
   gd (false) false (is (.bool true)),
   gd (false) false (gd (true) true (is (.int .i64 7))),
   gd (false) false (gd (true) true (is (.bool false))),
   gd (false) false (is (.bool false)),
   is (.bool false),
   is (.bool false),
   gd (false) false (is (.agg #[.int .i64 0, .int .i64 0])),
   gd (false) false (is (.agg #[.int .i64 0, .int .i64 0])),
   gd (false) false (is (.bool false)),
   is (.bool false)])
     ⟨is_k, is_k, is_k, is_k, is_k, gd_k (is_k), gd_k (is_k), gd_k (is_k), gd_k (gd_k (is_k)), gd_k (gd_k (is_k)), gd_k (is_k), is_k, is_k, gd_k (is_k), gd_k (is_k), gd_k (is_k), is_k, trivial⟩
     ⟨fun f s W l m p q r j => opv rfl rfl (by simp [go_sem, j.e 15 k19_15]) rfl,
  fun f s W l m p q r j => opv rfl rfl (by simp [go_sem, j.e 12 k19_12]) rfl,
  fun f s W l m p q r j => opv rfl rfl (by simp [go_sem, j.e 62 (m 1 rfl)]) rfl,
  fun f s W l m p q r j => opv rfl rfl (by simp [go_sem, j.e 61 (m 0 rfl), j.e 63 (m 2 rfl)]) rfl,
  fun f s W l m p q r j => opv rfl rfl (by simp [go_sem, j.e 64 (m 3 rfl)]) rfl,
  fun f s W l m p q r j => gdo rfl rfl (j.says (d := 65) rfl rfl (m 4 rfl)) fun hgd0 => gv (by simp [go_sem, j.e 15 k19_15]) rfl,
  fun f s W l m p q r j => gdo rfl rfl (j.says (d := 65) rfl rfl (m 4 rfl)) fun hgd0 => gv (by simp [go_sem, j.e 66 ((m 5 rfl).1 hgd0)]) rfl,
  fun f s W l m p q r j => gdo rfl rfl (j.says (d := 65) rfl rfl (m 4 rfl)) fun hgd0 => gv (by simp [go_sem, j.e 67 ((m 6 rfl).1 hgd0)]) rfl,
  fun f s W l m p q r j => gdo2 rfl rfl j (d := 68) rfl rfl (m 7 rfl) fun hgd0 hgd1 => gv (by simp [go_sem, j.e 12 k19_12]) rfl,
  fun f s W l m p q r j => gdo2 rfl rfl j (d := 68) rfl rfl (m 7 rfl) fun hgd0 hgd1 => gv (by simp [go_sem, j.e 69 (((m 8 rfl).1 hgd0).1 hgd1)]) rfl,
  fun f s W l m p q r j => gdo rfl rfl (j.says (d := 65) rfl rfl (m 4 rfl)) fun hgd0 => gk (c := true) (fun h => absurd h (by decide)) (fun _ => by simp [go_sem, j.e 68 ((m 7 rfl).1 hgd0), j.e 70 (((m 9 rfl).1 hgd0).1 rfl)]),
  fun f s W l m p q r j => opk (c := false) rfl rfl (fun _ => by simp [go_sem, j.e 65 (m 4 rfl), j.e 71 ((m 10 rfl).1 rfl)]) (fun h => absurd h (by decide)),
  fun f s W l m p q r j => opv rfl rfl (by simp [go_sem, j.e 72 (m 11 rfl)]) rfl,
  fun f s W l m p q r j => gdo rfl rfl (j.says (d := 73) rfl rfl (m 12 rfl)) fun hgd0 => gv (by simp [go_sem, j.e 11 k19_11, Joins.cell_of_block (blk_below b18_4 l) 0, Joins.cell_of_block (blk_below b18_4 l) 1]) rfl,
  fun f s W l m p q r j => gdo rfl rfl (j.says (d := 73) rfl rfl (m 12 rfl)) fun hgd0 => gv (by simp [go_sem, j.e 14 k19_14, Joins.cell_of_block (blk_below nb18 l) 0, Joins.cell_of_block (blk_below nb18 l) 1]) rfl,
  fun f s W l m p q r j => gdo rfl rfl (j.says (d := 73) rfl rfl (m 12 rfl)) fun hgd0 => gv (by simp [go_sem, j.e 74 ((m 13 rfl).1 hgd0), j.e 75 ((m 14 rfl).1 hgd0)]) rfl,
  fun f s W l m p q r j => opk (c := false) rfl rfl (fun _ => by simp [go_sem, j.e 73 (m 12 rfl), j.e 76 ((m 15 rfl).1 rfl)]) (fun h => absurd h (by decide)), trivial⟩ ?_
    intro f20 s20 W20 hB20 g20 hg20
    have fB20 := below_trans fB18 hB20.below
    have z20 := hB20.below.size
    have b20_0 := blk_below b18_0 hB20.below
    have b20_1 := blk_below b18_1 hB20.below
    have b20_2 := blk_below b18_2 hB20.below
    have b20_3 := blk_below b18_3 hB20.below
    have b20_4 := blk_below b18_4 hB20.below
    have b20_5 := blk_below nb18 hB20.below
    have q112' := (q105'.below hB20.below (Nat.le_refl _))
    have q113' := (Nat.lt_of_lt_of_le q106' (Below.size hB20.below))
    have q114' := (q107'.below hB20.below (Nat.le_refl _))
    have q115' := (Nat.lt_of_lt_of_le q108' (Below.size hB20.below))
    have q116' := (q109'.below hB20.below (Nat.le_refl _))
    have q117' := (Nat.lt_of_lt_of_le q110' (Below.size hB20.below))
    have q118' := (q111'.below hB20.below (Nat.le_refl _))
    refine hK20 _ _ ?_
    have k20_3 := kt hg20 3 k19_3
    have k20_4 := kt hg20 4 k19_4
    have k20_5 := kt hg20 5 k19_5
    have k20_6 := kt hg20 6 k19_6
    have k20_9 := kt hg20 9 k19_9
    have k20_10 := kt hg20 10 k19_10
    have k20_13 := kt hg20 13 k19_13
    have k20_77 := kt hg20 77 (hB20.is 16)
    refine wp_cond_false ((fr_eval rfl).trans k20_77) ?_
    refine wp_skip ?_
    exact J69' _ _ ⟨k20_3, k20_4, k20_5, k20_6, k20_9, k20_10, k20_13, fB20, (by omega), b20_0, b20_1, b20_2, b20_3, b20_4, q112', q113', q114', q115', q116', q117', q118'⟩
  ·
   have hc15' := hc15; try simp only [decide_eq_true_eq, decide_eq_false_iff_not, Bool.and_eq_true, Bool.or_eq_true, Bool.and_eq_false_iff, Bool.or_eq_false_iff, beq_iff_eq, bne_iff_ne, Bool.not_eq_true', Bool.not_eq_false', ne_eq, bne_eq_false_iff_eq, beq_eq_false_iff_ne] at hc15'
   have hE1' : wishedErr b ⟨(l1, h1'), (l2, h2'), (l3, h3'), (l4, h4'), (l5, h5'), wo⟩ [] ≠ 0 := by rw [hE1]; exact beq_eq_false_iff_ne.1 hc15
   have hFE : E1 = F := by rw [← hF, ← hE1]; unfold calErr; rw [if_neg hE1']
   subst hFE
   ·
    obtain ⟨rfl, rfl⟩ : q1 = 0 ∧ q2 = 0 := by have hb' := calOf_bad (b := b) (w := ⟨(l1, h1'), (l2, h2'), (l3, h3'), (l4, h4'), (l5, h5'), wo⟩) (by rw [hF, ← hE1]; exact hE1'); rw [hq] at hb'; exact ⟨(Prod.mk.inj hb').1, (Prod.mk.inj hb').2⟩
    refine wp_seq_k fun K22 hK22 => ?_
    refine region_dk 8 [(78, 0), (79, 1), (80, 2), (81, 3), (82, 4), (83, 5), (84, 6), (85, 7)] [[], [], [0, 1], [0, 1, 2], [0, 1, 2, 3], [0, 1, 2, 3], [0, 1, 2, 3, 4, 5], [0, 1, 2, 3, 4, 5, 6]] (rel [is (.int .i64 E1),
   is (.int .i64 E1),
   is (.bool false),
   is (.bool false),
   gd (false) false (is (.agg #[.int .i64 0, .int .i64 0])),
   gd (false) false (is (.agg #[.int .i64 0, .int .i64 0])),
   gd (false) false (is (.bool false)),
   is (.bool false)])
     ⟨is_k, is_k, is_k, is_k, gd_k (is_k), gd_k (is_k), gd_k (is_k), is_k, trivial⟩
     ⟨fun f s W l m p q r j => opv rfl rfl (by simp [go_sem, j.e 12 k12_12]) rfl,
  fun f s W l m p q r j => opv rfl rfl (by simp [go_sem, j.e 13 k12_13]) rfl,
  fun f s W l m p q r j => opv rfl rfl (by simp [go_sem, j.e 78 (m 0 rfl), j.e 79 (m 1 rfl)]) rfl,
  fun f s W l m p q r j => opv rfl rfl (by simp [go_sem, j.e 80 (m 2 rfl)]) rfl,
  fun f s W l m p q r j => gdo rfl rfl (j.says (d := 81) rfl rfl (m 3 rfl)) fun hgd0 => gv (by simp [go_sem, j.e 11 k12_11, Joins.cell_of_block (blk_below b12_4 l) 0, Joins.cell_of_block (blk_below b12_4 l) 1]) rfl,
  fun f s W l m p q r j => gdo rfl rfl (j.says (d := 81) rfl rfl (m 3 rfl)) fun hgd0 => gv (by simp [go_sem]) rfl,
  fun f s W l m p q r j => gdo rfl rfl (j.says (d := 81) rfl rfl (m 3 rfl)) fun hgd0 => gv (by simp [go_sem, j.e 82 ((m 4 rfl).1 hgd0), j.e 83 ((m 5 rfl).1 hgd0)]) rfl,
  fun f s W l m p q r j => opk (c := false) rfl rfl (fun _ => by simp [go_sem, j.e 81 (m 3 rfl), j.e 84 ((m 6 rfl).1 rfl)]) (fun h => absurd h (by decide)), trivial⟩ ?_
    intro f21 s21 W21 hB21 g21 hg21
    have fB21 := below_trans fB12 hB21.below
    have z21 := hB21.below.size
    have b21_0 := blk_below b12_0 hB21.below
    have b21_1 := blk_below b12_1 hB21.below
    have b21_2 := blk_below b12_2 hB21.below
    have b21_3 := blk_below b12_3 hB21.below
    have b21_4 := blk_below b12_4 hB21.below
    have q119' := (q70'.below hB21.below (Nat.le_refl _))
    have q120' := (Nat.lt_of_lt_of_le q71' (Below.size hB21.below))
    have q121' := (q72'.below hB21.below (Nat.le_refl _))
    have q122' := (Nat.lt_of_lt_of_le q73' (Below.size hB21.below))
    have q123' := (q74'.below hB21.below (Nat.le_refl _))
    have q124' := (Nat.lt_of_lt_of_le q75' (Below.size hB21.below))
    have q125' := (q76'.below hB21.below (Nat.le_refl _))
    refine hK22 _ _ ?_
    have k21_3 := kt hg21 3 k12_3
    have k21_4 := kt hg21 4 k12_4
    have k21_5 := kt hg21 5 k12_5
    have k21_6 := kt hg21 6 k12_6
    have k21_9 := kt hg21 9 k12_9
    have k21_10 := kt hg21 10 k12_10
    have k21_13 := kt hg21 13 k12_13
    have k21_85 := kt hg21 85 (hB21.is 7)
    refine wp_cond_false ((fr_eval rfl).trans k21_85) ?_
    refine wp_skip ?_
    exact J69' _ _ ⟨k21_3, k21_4, k21_5, k21_6, k21_9, k21_10, k21_13, fB21, (by omega), b21_0, b21_1, b21_2, b21_3, b21_4, q119', q120', q121', q122', q123', q124', q125'⟩
 rintro g_126 W_126 ⟨k_126_3, k_126_4, k_126_5, k_126_6, k_126_9, k_126_10, k_126_13, fB_126, z_126, b_126_0, b_126_1, b_126_2, b_126_3, b_126_4, q127', q128', q129', q130', q131', q132', q133'⟩
 refine hK13 _ _ ?_
 refine wp_seq_k fun K24 hK24 => ?_
 refine wp_seq_k fun K25 hK25 => ?_
 refine region_dk 5 [(86, 0), (87, 1), (88, 2), (89, 3), (16, 4)] [[], [], [], [0, 1, 2], [0, 1, 2, 3]] (rel [is (.agg #[.int .i64 b.tab, .slice (a1) (b.panels.length) (c1), .int .i64 b.height, .slice (a2) (b.top.length) (c2), .slice (a3) (b.bottom.length) (c3), .int .i64 b.slot, .bool b.isOpen]),
   is (.agg #[.int .i64 l1, .int .i64 (h1'), .int .i64 l2, .int .i64 (h2'), .int .i64 l3, .int .i64 (h3'), .int .i64 l4, .int .i64 (h4'), .int .i64 l5, .int .i64 (h5'), .bool wo]),
   is (.agg #[.int .i64 lo, .int .i64 hi]),
   is (.int .i64 E2),
   is (.int .i64 E2)])
  ⟨is_k, is_k, is_k, is_k, is_k, trivial⟩
  ⟨fun f s W l m p q r j => opv rfl rfl (by simp [go_sem, j.e 3 k_126_3, Joins.cell_of_block (blk_below b_126_0 l) 0, Joins.cell_of_block (blk_below b_126_0 l) 1, Joins.cell_of_block (blk_below b_126_0 l) 2, Joins.cell_of_block (blk_below b_126_0 l) 3, Joins.cell_of_block (blk_below b_126_0 l) 4, Joins.cell_of_block (blk_below b_126_0 l) 5, Joins.cell_of_block (blk_below b_126_0 l) 6]) rfl,
  fun f s W l m p q r j => opv rfl rfl (by simp [go_sem, j.e 4 k_126_4, Joins.cell_of_block (blk_below b_126_1 l) 0, Joins.cell_of_block (blk_below b_126_1 l) 1, Joins.cell_of_block (blk_below b_126_1 l) 2, Joins.cell_of_block (blk_below b_126_1 l) 3, Joins.cell_of_block (blk_below b_126_1 l) 4, Joins.cell_of_block (blk_below b_126_1 l) 5, Joins.cell_of_block (blk_below b_126_1 l) 6, Joins.cell_of_block (blk_below b_126_1 l) 7, Joins.cell_of_block (blk_below b_126_1 l) 8, Joins.cell_of_block (blk_below b_126_1 l) 9, Joins.cell_of_block (blk_below b_126_1 l) 10]) rfl,
  fun f s W l m p q r j => opv rfl rfl (by simp [go_sem, j.e 5 k_126_5, Joins.cell_of_block (blk_below b_126_2 l) 0, Joins.cell_of_block (blk_below b_126_2 l) 1]) rfl,
  fun f s W l m p q r j => by have u := below_trans fB_126 l; exact opDo_call rfl rfl (by simp [go_sem, j.e 86 (m 0 rfl), j.e 87 (m 1 rfl), j.e 88 (m 2 rfl)]) (askedR_any a1 a2 a3 c1 c2 c3 b l1 h1' l2 h2' l3 h3' l4 h4' l5 h5' wo lo hi W (h1.below u (Nat.le_refl _)) (h2.below u (Nat.le_refl _)) (h3.below u (Nat.le_refl _))) ((fun e W' h => by have h1 := h.1; rw [askedR_eq, hE2] at h1; exact ⟨_, h1, h.2, rfl⟩)),
  fun f s W l m p q r j => opv rfl rfl (by simp [go_sem, j.e 89 (m 3 rfl)]) rfl, trivial⟩ ?_
 intro f22 s22 W22 hB22 g22 hg22
 have fB22 := below_trans fB_126 hB22.below
 have z22 := hB22.below.size
 have b22_0 := blk_below b_126_0 hB22.below
 have b22_1 := blk_below b_126_1 hB22.below
 have b22_2 := blk_below b_126_2 hB22.below
 have b22_3 := blk_below b_126_3 hB22.below
 have b22_4 := blk_below b_126_4 hB22.below
 have q134' := (q127'.below hB22.below (Nat.le_refl _))
 have q135' := (Nat.lt_of_lt_of_le q128' (Below.size hB22.below))
 have q136' := (q129'.below hB22.below (Nat.le_refl _))
 have q137' := (Nat.lt_of_lt_of_le q130' (Below.size hB22.below))
 have q138' := (q131'.below hB22.below (Nat.le_refl _))
 have q139' := (Nat.lt_of_lt_of_le q132' (Below.size hB22.below))
 have q140' := (q133'.below hB22.below (Nat.le_refl _))
 refine hK25 _ _ ?_
 have k22_3 := kt hg22 3 k_126_3
 have k22_4 := kt hg22 4 k_126_4
 have k22_5 := kt hg22 5 k_126_5
 have k22_6 := kt hg22 6 k_126_6
 have k22_9 := kt hg22 9 k_126_9
 have k22_10 := kt hg22 10 k_126_10
 have k22_16 := kt hg22 16 (hB22.is 4)
 refine wp_seq_k fun K26 hK26 => ?_
 refine region_dk 2 [(90, 0), (91, 1)] [[], [0]] (rel [is (.int .i64 E2),
   is (.bool (E2 != 0))])
  ⟨is_k, is_k, trivial⟩
  ⟨fun f s W l m p q r j => opv rfl rfl (by simp [go_sem, j.e 16 k22_16]) rfl,
  fun f s W l m p q r j => opv rfl rfl (by simp [go_sem, j.e 90 (m 0 rfl)]) rfl, trivial⟩ ?_
 intro f23 s23 W23 hB23 g23 hg23
 have fB23 := below_trans fB22 hB23.below
 have z23 := hB23.below.size
 have b23_0 := blk_below b22_0 hB23.below
 have b23_1 := blk_below b22_1 hB23.below
 have b23_2 := blk_below b22_2 hB23.below
 have b23_3 := blk_below b22_3 hB23.below
 have b23_4 := blk_below b22_4 hB23.below
 have q141' := (q134'.below hB23.below (Nat.le_refl _))
 have q142' := (Nat.lt_of_lt_of_le q135' (Below.size hB23.below))
 have q143' := (q136'.below hB23.below (Nat.le_refl _))
 have q144' := (Nat.lt_of_lt_of_le q137' (Below.size hB23.below))
 have q145' := (q138'.below hB23.below (Nat.le_refl _))
 have q146' := (Nat.lt_of_lt_of_le q139' (Below.size hB23.below))
 have q147' := (q140'.below hB23.below (Nat.le_refl _))
 refine hK26 _ _ ?_
 have k23_3 := kt hg23 3 k22_3
 have k23_4 := kt hg23 4 k22_4
 have k23_5 := kt hg23 5 k22_5
 have k23_6 := kt hg23 6 k22_6
 have k23_9 := kt hg23 9 k22_9
 have k23_10 := kt hg23 10 k22_10
 have k23_16 := kt hg23 16 k22_16
 have k23_91 := kt hg23 91 (hB23.is 1)
 refine wp_cond_split (t := E2 != 0) ((fr_eval rfl).trans k23_91) (fun hc27 => ?_) (fun hc27 => ?_)
 ·
  have hc27' := hc27; try simp only [decide_eq_true_eq, decide_eq_false_iff_not, Bool.and_eq_true, Bool.or_eq_true, Bool.and_eq_false_iff, Bool.or_eq_false_iff, beq_iff_eq, bne_iff_ne, Bool.not_eq_true', Bool.not_eq_false', ne_eq, bne_eq_false_iff_eq, beq_eq_false_iff_ne] at hc27'
  have hL0 : ((L.length : Int) == 0) = true := by rw [← hL, if_neg (by exact bne_iff_ne.1 hc27)]; rfl
  refine wp_seq_k fun K28 hK28 => ?_
  refine region_dk 12 [(92, 0), (93, 1), (94, 2), (95, 3), (96, 4), (97, 5), (98, 6), (99, 7), (100, 8), (101, 9), (102, 10), (6, 11)] [[], [], [0, 1], [0, 1, 2], [0, 1, 2, 3], [0, 1, 2, 3, 4], [0, 1, 2, 3, 4, 5], [0, 1, 2, 3, 4, 5, 6], [0, 1, 2, 3, 4, 5, 6, 7], [0, 1, 2, 3, 4, 5, 6, 7, 8], [0, 1, 2, 3, 4, 5, 6, 7, 8, 9], [0, 1, 2, 3, 4, 5, 6, 7, 8, 9, 10]] (rel [is (.int .i64 E2),
   is (.int .i64 E2),
   is (.bool true),
   is (.bool true),
   gd (true) true (is (.slice (a37') (L.length) (c38'))),
   gd (true) true (is (.int .i64 ((L.length : Int)))),
   gd (true) true (is (.bool true)),
   is (.bool true),
   is (.bool true),
   gd (true) true (is (.bool true)),
   is (.bool true),
   is (.bool true)])
   ⟨is_k, is_k, is_k, is_k, gd_k (is_k), gd_k (is_k), gd_k (is_k), is_k, is_k, gd_k (is_k), is_k, is_k, trivial⟩
   ⟨fun f s W l m p q r j => opv rfl rfl (by simp [go_sem, j.e 10 k23_10]) rfl,
  fun f s W l m p q r j => opv rfl rfl (by simp [go_sem, j.e 16 k23_16]) rfl,
  fun f s W l m p q r j => opv rfl rfl (by simp [go_sem, j.e 92 (m 0 rfl), j.e 93 (m 1 rfl)]) rfl,
  fun f s W l m p q r j => opv rfl rfl (by simp [go_sem, j.e 94 (m 2 rfl)]) rfl,
  fun f s W l m p q r j => gdo rfl rfl (j.says (d := 95) rfl rfl (m 3 rfl)) fun hgd0 => gv (by simp [go_sem, j.e 9 k23_9]) rfl,
  fun f s W l m p q r j => gdo rfl rfl (j.says (d := 95) rfl rfl (m 3 rfl)) fun hgd0 => gv (by simp [go_sem, j.e 96 ((m 4 rfl).1 hgd0)]) rfl,
  fun f s W l m p q r j => gdo rfl rfl (j.says (d := 95) rfl rfl (m 3 rfl)) fun hgd0 => gv (by simp [go_sem, j.e 97 ((m 5 rfl).1 hgd0), hL0]) rfl,
  fun f s W l m p q r j => opk (c := true) rfl rfl (fun h => absurd h (by decide)) (fun _ => by simp [go_sem, j.e 95 (m 3 rfl), j.e 98 ((m 6 rfl).1 rfl)]),
  fun f s W l m p q r j => opv rfl rfl (by simp [go_sem, j.e 99 (m 7 rfl)]) rfl,
  fun f s W l m p q r j => gdo rfl rfl (j.says (d := 100) rfl rfl (m 8 rfl)) fun hgd0 => gc (by simp [go_sem]) (known_any W),
  fun f s W l m p q r j => opk (c := true) rfl rfl (fun h => absurd h (by decide)) (fun _ => by simp [go_sem, j.e 100 (m 8 rfl), j.e 101 ((m 9 rfl).1 rfl)]),
  fun f s W l m p q r j => opv rfl rfl (by simp [go_sem, j.e 102 (m 10 rfl)]) rfl, trivial⟩ ?_
  intro f24 s24 W24 hB24 g24 hg24
  have fB24 := below_trans fB23 hB24.below
  have z24 := hB24.below.size
  have b24_0 := blk_below b23_0 hB24.below
  have b24_1 := blk_below b23_1 hB24.below
  have b24_2 := blk_below b23_2 hB24.below
  have b24_3 := blk_below b23_3 hB24.below
  have b24_4 := blk_below b23_4 hB24.below
  have q148' := (q141'.below hB24.below (Nat.le_refl _))
  have q149' := (Nat.lt_of_lt_of_le q142' (Below.size hB24.below))
  have q150' := (q143'.below hB24.below (Nat.le_refl _))
  have q151' := (Nat.lt_of_lt_of_le q144' (Below.size hB24.below))
  have q152' := (q145'.below hB24.below (Nat.le_refl _))
  have q153' := (Nat.lt_of_lt_of_le q146' (Below.size hB24.below))
  have q154' := (q147'.below hB24.below (Nat.le_refl _))
  refine hK28 _ _ ?_
  have k24_3 := kt hg24 3 k23_3
  have k24_4 := kt hg24 4 k23_4
  have k24_5 := kt hg24 5 k23_5
  have k24_9 := kt hg24 9 k23_9
  have k24_10 := kt hg24 10 k23_10
  have k24_6 := kt hg24 6 (hB24.is 11)
  refine wp_ret ?_
  refine then_ret ?_
  refine leave_one (N := 132) (v := .bool true) (.inr rfl) Tryz.results4 rfl k24_6 ?_
  exact ⟨rfl, fB24⟩
 ·
  have hc27' := hc27; try simp only [decide_eq_true_eq, decide_eq_false_iff_not, Bool.and_eq_true, Bool.or_eq_true, Bool.and_eq_false_iff, Bool.or_eq_false_iff, beq_iff_eq, bne_iff_ne, Bool.not_eq_true', Bool.not_eq_false', ne_eq, bne_eq_false_iff_eq, beq_eq_false_iff_ne] at hc27'
  have hE2' : wishedErr b ⟨(l1, h1'), (l2, h2'), (l3, h3'), (l4, h4'), (l5, h5'), wo⟩ [(lo, hi)] = 0 := by rw [hE2]; exact bne_eq_false_iff_eq.1 hc27
  obtain ⟨hck, hxw'⟩ := wished_parts hE2'
  have hwi := wish_in hxw'
  obtain ⟨hs1, hs2, hs3⟩ := isSpan_iff.1 (wished_span hE2')
  have hE20 : (E2 != 0) = false := hc27
  have hLR : closeR b ⟨(l1, h1'), (l2, h2'), (l3, h3'), (l4, h4'), (l5, h5'), wo⟩ (lo, hi) = L := by rw [closeR_eq hs1 hs3, ← hL, if_pos (by rw [← hE2]; exact hE2')]
  refine wp_skip ?_
  refine hK24 _ _ ?_
  refine wp_seq_k fun K29 hK29 => ?_
  refine region_dk 5 [(103, 0), (104, 1), (105, 2), (106, 3), (17, 4)] [[], [], [], [0, 1, 2], [0, 1, 2, 3]] (rel [is (.agg #[.int .i64 b.tab, .slice (a1) (b.panels.length) (c1), .int .i64 b.height, .slice (a2) (b.top.length) (c2), .slice (a3) (b.bottom.length) (c3), .int .i64 b.slot, .bool b.isOpen]),
   is (.agg #[.int .i64 l1, .int .i64 (h1'), .int .i64 l2, .int .i64 (h2'), .int .i64 l3, .int .i64 (h3'), .int .i64 l4, .int .i64 (h4'), .int .i64 l5, .int .i64 (h5'), .bool wo]),
   is (.agg #[.int .i64 lo, .int .i64 hi]),
   ab fun v W => IsPp L v W,
   ab fun v W => IsPp L v W])
   ⟨is_k, is_k, is_k, ab_k fun v W W' hb h => h.below hb, ab_k fun v W W' hb h => h.below hb, trivial⟩
   ⟨fun f s W l m p q r j => opv rfl rfl (by simp [go_sem, j.e 3 k23_3, Joins.cell_of_block (blk_below b23_0 l) 0, Joins.cell_of_block (blk_below b23_0 l) 1, Joins.cell_of_block (blk_below b23_0 l) 2, Joins.cell_of_block (blk_below b23_0 l) 3, Joins.cell_of_block (blk_below b23_0 l) 4, Joins.cell_of_block (blk_below b23_0 l) 5, Joins.cell_of_block (blk_below b23_0 l) 6]) rfl,
  fun f s W l m p q r j => opv rfl rfl (by simp [go_sem, j.e 4 k23_4, Joins.cell_of_block (blk_below b23_1 l) 0, Joins.cell_of_block (blk_below b23_1 l) 1, Joins.cell_of_block (blk_below b23_1 l) 2, Joins.cell_of_block (blk_below b23_1 l) 3, Joins.cell_of_block (blk_below b23_1 l) 4, Joins.cell_of_block (blk_below b23_1 l) 5, Joins.cell_of_block (blk_below b23_1 l) 6, Joins.cell_of_block (blk_below b23_1 l) 7, Joins.cell_of_block (blk_below b23_1 l) 8, Joins.cell_of_block (blk_below b23_1 l) 9, Joins.cell_of_block (blk_below b23_1 l) 10]) rfl,
  fun f s W l m p q r j => opv rfl rfl (by simp [go_sem, j.e 5 k23_5, Joins.cell_of_block (blk_below b23_2 l) 0, Joins.cell_of_block (blk_below b23_2 l) 1]) rfl,
  fun f s W l m p q r j => by have u := below_trans fB23 l; exact opDo_call rfl rfl (by simp [go_sem, j.e 103 (m 0 rfl), j.e 104 (m 1 rfl), j.e 105 (m 2 rfl)]) (closeR_any a1 a2 a3 c1 c2 c3 b l1 h1' l2 h2' l3 h3' l4 h4' l5 h5' wo lo hi W (h1.below u (Nat.le_refl _)) (h2.below u (Nat.le_refl _)) (h3.below u (Nat.le_refl _)) hck hwi (by omega) (by omega) (by omega)) ((fun e W' h => by obtain ⟨v, e1, h1, h2⟩ := h; rw [hLR] at h1; exact ⟨_, e1, h2, h1⟩)),
  fun f s W l m p q r j => opv (v := (f 3)) rfl rfl (by simp [go_sem, (j.at' 106 rfl : r.tmps[106]?.getD undef = f 3)] <;> rfl) (m 3 rfl), trivial⟩ ?_
  intro f25 s25 W25 hB25 g25 hg25
  have fB25 := below_trans fB23 hB25.below
  have z25 := hB25.below.size
  have b25_0 := blk_below b23_0 hB25.below
  have b25_1 := blk_below b23_1 hB25.below
  have b25_2 := blk_below b23_2 hB25.below
  have b25_3 := blk_below b23_3 hB25.below
  have b25_4 := blk_below b23_4 hB25.below
  have q158' := (q141'.below hB25.below (Nat.le_refl _))
  have q159' := (Nat.lt_of_lt_of_le q142' (Below.size hB25.below))
  have q160' := (q143'.below hB25.below (Nat.le_refl _))
  have q161' := (Nat.lt_of_lt_of_le q144' (Below.size hB25.below))
  have q162' := (q145'.below hB25.below (Nat.le_refl _))
  have q163' := (Nat.lt_of_lt_of_le q146' (Below.size hB25.below))
  have q164' := (q147'.below hB25.below (Nat.le_refl _))
  obtain ⟨a165', c166', r25_4, q167'⟩ := hB25.is 4
  have lim168' := Pp.lim q167'
  refine hK29 _ _ ?_
  have k25_6 := kt hg25 6 k23_6
  have k25_9 := kt hg25 9 k23_9
  have k25_10 := kt hg25 10 k23_10
  have k25_17 := kt hg25 17 r25_4
  refine wp_seq_k fun K30 hK30 => ?_
  refine wp_seq_k fun K31 hK31 => ?_
  refine region_dk 9 [(107, 0), (108, 1), (109, 2), (110, 3), (111, 4), (112, 5), (113, 6), (114, 7), (115, 8)] [[], [0], [0, 1], [0, 1, 2], [0, 1, 2, 3], [0, 1, 2], [0, 1, 2, 5], [0, 1, 2, 3, 4, 5, 6], [0, 1, 2, 3, 4, 5, 6, 7]] (rel [is (.int .i64 E2),
   is (.bool false),
   is (.bool false),
   gd (false) false (is (.slice (a37') (L.length) (c38'))),
   gd (false) false (is (.int .i64 ((L.length : Int)))),
   gd (false) false (is (.slice (a165') (L.length) (c166'))),
   gd (false) false (is (.int .i64 ((L.length : Int)))),
   gd (false) false (is (.bool false)),
   is (.bool false)])
   ⟨is_k, is_k, is_k, gd_k (is_k), gd_k (is_k), gd_k (is_k), gd_k (is_k), gd_k (is_k), is_k, trivial⟩
   ⟨fun f s W l m p q r j => opv rfl rfl (by simp [go_sem, j.e 10 k25_10]) rfl,
  fun f s W l m p q r j => opv rfl rfl (by simp [go_sem, j.e 107 (m 0 rfl), hc27]) rfl,
  fun f s W l m p q r j => opv rfl rfl (by simp [go_sem, j.e 108 (m 1 rfl)]) rfl,
  fun f s W l m p q r j => gdo rfl rfl (j.says (d := 109) rfl rfl (m 2 rfl)) fun hgd0 => gv (by simp [go_sem, j.e 9 k25_9]) rfl,
  fun f s W l m p q r j => gdo rfl rfl (j.says (d := 109) rfl rfl (m 2 rfl)) fun hgd0 => gv (by simp [go_sem, j.e 110 ((m 3 rfl).1 hgd0)]) rfl,
  fun f s W l m p q r j => gdo rfl rfl (j.says (d := 109) rfl rfl (m 2 rfl)) fun hgd0 => gv (by simp [go_sem, j.e 17 k25_17]) rfl,
  fun f s W l m p q r j => gdo rfl rfl (j.says (d := 109) rfl rfl (m 2 rfl)) fun hgd0 => gv (by simp [go_sem, j.e 112 ((m 5 rfl).1 hgd0)]) rfl,
  fun f s W l m p q r j => gdo rfl rfl (j.says (d := 109) rfl rfl (m 2 rfl)) fun hgd0 => gv (by simp [go_sem, j.e 111 ((m 4 rfl).1 hgd0), j.e 113 ((m 6 rfl).1 hgd0)]) rfl,
  fun f s W l m p q r j => opk (c := false) rfl rfl (fun _ => by simp [go_sem, j.e 109 (m 2 rfl), j.e 114 ((m 7 rfl).1 rfl)]) (fun h => absurd h (by decide)), trivial⟩ ?_
  intro f26 s26 W26 hB26 g26 hg26
  have fB26 := below_trans fB25 hB26.below
  have z26 := hB26.below.size
  have b26_0 := blk_below b25_0 hB26.below
  have b26_1 := blk_below b25_1 hB26.below
  have b26_2 := blk_below b25_2 hB26.below
  have b26_3 := blk_below b25_3 hB26.below
  have b26_4 := blk_below b25_4 hB26.below
  have q169' := (q158'.below hB26.below (Nat.le_refl _))
  have q170' := (Nat.lt_of_lt_of_le q159' (Below.size hB26.below))
  have q171' := (q160'.below hB26.below (Nat.le_refl _))
  have q172' := (Nat.lt_of_lt_of_le q161' (Below.size hB26.below))
  have q173' := (q162'.below hB26.below (Nat.le_refl _))
  have q174' := (Nat.lt_of_lt_of_le q163' (Below.size hB26.below))
  have q175' := (q164'.below hB26.below (Nat.le_refl _))
  have q176' := (q167'.below hB26.below (Nat.le_refl _))
  refine hK31 _ _ ?_
  have k26_6 := kt hg26 6 k25_6
  have k26_9 := kt hg26 9 k25_9
  have k26_17 := kt hg26 17 k25_17
  have k26_115 := kt hg26 115 (hB26.is 8)
  refine wp_cond_false ((fr_eval rfl).trans k26_115) ?_
  refine wp_skip ?_
  refine hK30 _ _ ?_
  refine wp_seq_k fun K33 hK33 => ?_
  refine wp_seq_k fun K34 hK34 => ?_
  refine region_dk 1 [(18, 0)] [[]] (rel [is (.int .i64 0)])
   ⟨is_k, trivial⟩
   ⟨fun f s W l m p q r j => opv rfl rfl (by simp [go_sem]) rfl, trivial⟩ ?_
  intro f27 s27 W27 hB27 g27 hg27
  have fB27 := below_trans fB26 hB27.below
  have z27 := hB27.below.size
  have b27_0 := blk_below b26_0 hB27.below
  have b27_1 := blk_below b26_1 hB27.below
  have b27_2 := blk_below b26_2 hB27.below
  have b27_3 := blk_below b26_3 hB27.below
  have b27_4 := blk_below b26_4 hB27.below
  have q177' := (q169'.below hB27.below (Nat.le_refl _))
  have q178' := (Nat.lt_of_lt_of_le q170' (Below.size hB27.below))
  have q179' := (q171'.below hB27.below (Nat.le_refl _))
  have q180' := (Nat.lt_of_lt_of_le q172' (Below.size hB27.below))
  have q181' := (q173'.below hB27.below (Nat.le_refl _))
  have q182' := (Nat.lt_of_lt_of_le q174' (Below.size hB27.below))
  have q183' := (q175'.below hB27.below (Nat.le_refl _))
  have q184' := (q176'.below hB27.below (Nat.le_refl _))
  refine hK34 _ _ ?_
  have k27_6 := kt hg27 6 k26_6
  have k27_9 := kt hg27 9 k26_9
  have k27_17 := kt hg27 17 k26_17
  have k27_18 := kt hg27 18 (hB27.is 0)
  refine wp_block ?_
  refine wp_loop_n (fun m_ a_ W_ => ∃ g_ : Nat → Value, a_ = fr 132 g_ ∧ (∃ i : Nat, m_ = L.length - i ∧ g_ 6 = .bool false ∧ g_ 9 = .slice (a37') (L.length) (c38') ∧ g_ 17 = .slice (a165') (L.length) (c166') ∧ g_ 18 = .int .i64 ((i : Int)) ∧ Below w.heap.size w W_ ∧ W27.heap.size ≤ W_.heap.size ∧ W_.heap[(s1 0)]? = some (.cells #[.int .i64 b.tab, .slice (a1) (b.panels.length) (c1), .int .i64 b.height, .slice (a2) (b.top.length) (c2), .slice (a3) (b.bottom.length) (c3), .int .i64 b.slot, .bool b.isOpen] 24 (0, 0)) ∧ W_.heap[(s1 1)]? = some (.cells #[.int .i64 l1, .int .i64 (h1'), .int .i64 l2, .int .i64 (h2'), .int .i64 l3, .int .i64 (h3'), .int .i64 l4, .int .i64 (h4'), .int .i64 l5, .int .i64 (h5'), .bool wo] 43 (0, 0)) ∧ W_.heap[(s1 2)]? = some (.cells #[.int .i64 lo, .int .i64 hi] 26 (0, 0)) ∧ W_.heap[(s3 2)]? = some (.cells #[.int .i64 b.tab, .slice (some ⟨g1', 0, none⟩) (b.panels.length) (c4'), .int .i64 b.height, .slice (some ⟨g2', 0, none⟩) (b.top.length) (c5'), .slice (some ⟨g3', 0, none⟩) (b.bottom.length) (c6'), .int .i64 b.slot, .bool b.isOpen] 24 (0, 0)) ∧ W_.heap[(s7 6)]? = some (.cells #[.int .i64 q1, .int .i64 q2] 26 (0, 0)) ∧ Ii W_ (some ⟨g1', 0, none⟩) (b).panels.length c4' (b).panels ∧ g1' < W_.heap.size ∧ Ii W_ (some ⟨g2', 0, none⟩) (b).top.length c5' (b).top ∧ g2' < W_.heap.size ∧ Ii W_ (some ⟨g3', 0, none⟩) (b).bottom.length c6' (b).bottom ∧ g3' < W_.heap.size ∧ Pp W_ a37' L.length c38' L ∧ Pp W_ a165' L.length c166' L ∧ (i ≤ L.length))) ⟨_, g27, rfl, 0, rfl, k27_6, k27_9, k27_17, k27_18.trans (by rfl), fB27, Nat.le_refl _, b27_0, b27_1, b27_2, b27_3, b27_4, q177', q178', q179', q180', q181', q182', q183', q184', (by omega)⟩ ?_
  rintro _ _ W_185 ⟨g_185, rfl, i, rfl, k_185_6, k_185_9, k_185_17, k_185_18, fB_185, z_185, b_185_0, b_185_1, b_185_2, b_185_3, b_185_4, q186', q187', q188', q189', q190', q191', q192', q193', lp0⟩
  refine wp_seq_k fun K35 hK35 => ?_
  refine wp_seq_k fun K36 hK36 => ?_
  refine region_dk 4 [(116, 0), (117, 1), (118, 2), (119, 3)] [[], [], [1], [0, 1, 2]] (rel [is (.int .i64 ((i : Int))),
   is (.slice (a37') (L.length) (c38')),
   is (.int .i64 ((L.length : Int))),
   is (.bool (decide ((i : Int) < (L.length : Int))))])
   ⟨is_k, is_k, is_k, is_k, trivial⟩
   ⟨fun f s W l m p q r j => opv rfl rfl (by simp [go_sem, j.e 18 k_185_18]) rfl,
  fun f s W l m p q r j => opv rfl rfl (by simp [go_sem, j.e 9 k_185_9]) rfl,
  fun f s W l m p q r j => opv rfl rfl (by simp [go_sem, j.e 117 (m 1 rfl)]) rfl,
  fun f s W l m p q r j => opv rfl rfl (by simp [go_sem, j.e 116 (m 0 rfl), j.e 118 (m 2 rfl)]) rfl, trivial⟩ ?_
  intro f28 s28 W28 hB28 g28 hg28
  have fB28 := below_trans fB_185 hB28.below
  have z28 := hB28.below.size
  have b28_0 := blk_below b_185_0 hB28.below
  have b28_1 := blk_below b_185_1 hB28.below
  have b28_2 := blk_below b_185_2 hB28.below
  have b28_3 := blk_below b_185_3 hB28.below
  have b28_4 := blk_below b_185_4 hB28.below
  have q194' := (q186'.below hB28.below (Nat.le_refl _))
  have q195' := (Nat.lt_of_lt_of_le q187' (Below.size hB28.below))
  have q196' := (q188'.below hB28.below (Nat.le_refl _))
  have q197' := (Nat.lt_of_lt_of_le q189' (Below.size hB28.below))
  have q198' := (q190'.below hB28.below (Nat.le_refl _))
  have q199' := (Nat.lt_of_lt_of_le q191' (Below.size hB28.below))
  have q200' := (q192'.below hB28.below (Nat.le_refl _))
  have q201' := (q193'.below hB28.below (Nat.le_refl _))
  refine hK36 _ _ ?_
  have k28_6 := kt hg28 6 k_185_6
  have k28_9 := kt hg28 9 k_185_9
  have k28_17 := kt hg28 17 k_185_17
  have k28_18 := kt hg28 18 k_185_18
  have k28_119 := kt hg28 119 (hB28.is 3)
  refine wp_cond_split (t := decide ((i : Int) < (L.length : Int))) ((fr_eval rfl).trans k28_119) (fun hc37 => ?_) (fun hc37 => ?_)
  ·
   have hc37' := hc37; try simp only [decide_eq_true_eq, decide_eq_false_iff_not, Bool.and_eq_true, Bool.or_eq_true, Bool.and_eq_false_iff, Bool.or_eq_false_iff, beq_iff_eq, bne_iff_ne, Bool.not_eq_true', Bool.not_eq_false', ne_eq, bne_eq_false_iff_eq, beq_eq_false_iff_ne] at hc37'
   obtain ⟨bq0, oq0, hab0⟩ := q200'.at' (by omega)
   obtain ⟨bq1, oq1, hab1⟩ := q201'.at' (by omega)
   have hll := q200'.len_le
   have li := Nat.not_le.2 (show i < L.length by omega)
   refine wp_skip ?_
   refine hK35 _ _ ?_
   refine wp_seq_k fun K38 hK38 => ?_
   refine wp_block ?_
   refine wp_seq_k fun K39 hK39 => ?_
   refine region_dk 9 [(122, 0), (123, 1), (124, 2), (125, 3), (126, 4), (127, 5), (128, 6), (129, 7), (130, 8)] [[], [], [0, 1], [0, 1, 2], [], [], [4, 5], [4, 5, 6], [0, 1, 2, 3, 4, 5, 6, 7]] (rel [is (.slice (a37') (L.length) (c38')),
   is (.int .i64 ((i : Int))),
   is (.pointer (some ⟨bq0, oq0 + i * 2, none⟩)),
   is (.agg #[.int .i64 ((L.getD i (0, 0)).1), .int .i64 ((L.getD i (0, 0)).2)]),
   is (.slice (a165') (L.length) (c166')),
   is (.int .i64 ((i : Int))),
   is (.pointer (some ⟨bq1, oq1 + i * 2, none⟩)),
   is (.agg #[.int .i64 ((L.getD i (0, 0)).1), .int .i64 ((L.getD i (0, 0)).2)]),
   is (.bool false)])
    ⟨is_k, is_k, is_k, is_k, is_k, is_k, is_k, is_k, is_k, trivial⟩
    ⟨fun f s W l m p q r j => opv rfl rfl (by simp [go_sem, j.e 9 k28_9]) rfl,
  fun f s W l m p q r j => opv rfl rfl (by simp [go_sem, j.e 18 k28_18]) rfl,
  fun f s W l m p q r j => opv rfl rfl (by simp [go_sem, j.e 122 (m 0 rfl), j.e 123 (m 1 rfl), hab0, li]) rfl,
  fun f s W l m p q r j => by have cu := pp_get (i := i) (q200'.below l (Nat.le_refl _)) hab0 (by omega); have cx_ := cu.1; have cy_ := cu.2; exact opv rfl rfl (by simp [go_sem, j.e 124 (m 2 rfl), cx_, cy_]) rfl,
  fun f s W l m p q r j => opv rfl rfl (by simp [go_sem, j.e 17 k28_17]) rfl,
  fun f s W l m p q r j => opv rfl rfl (by simp [go_sem, j.e 18 k28_18]) rfl,
  fun f s W l m p q r j => opv rfl rfl (by simp [go_sem, j.e 126 (m 4 rfl), j.e 127 (m 5 rfl), hab1, li]) rfl,
  fun f s W l m p q r j => by have cu := pp_get (i := i) (q201'.below l (Nat.le_refl _)) hab1 (by omega); have cx_ := cu.1; have cy_ := cu.2; exact opv rfl rfl (by simp [go_sem, j.e 128 (m 6 rfl), cx_, cy_]) rfl,
  fun f s W l m p q r j => opv rfl rfl (by simp [go_sem, j.e 125 (m 3 rfl), j.e 129 (m 7 rfl)]) rfl, trivial⟩ ?_
   intro f29 s29 W29 hB29 g29 hg29
   have fB29 := below_trans fB28 hB29.below
   have z29 := hB29.below.size
   have b29_0 := blk_below b28_0 hB29.below
   have b29_1 := blk_below b28_1 hB29.below
   have b29_2 := blk_below b28_2 hB29.below
   have b29_3 := blk_below b28_3 hB29.below
   have b29_4 := blk_below b28_4 hB29.below
   have q202' := (q194'.below hB29.below (Nat.le_refl _))
   have q203' := (Nat.lt_of_lt_of_le q195' (Below.size hB29.below))
   have q204' := (q196'.below hB29.below (Nat.le_refl _))
   have q205' := (Nat.lt_of_lt_of_le q197' (Below.size hB29.below))
   have q206' := (q198'.below hB29.below (Nat.le_refl _))
   have q207' := (Nat.lt_of_lt_of_le q199' (Below.size hB29.below))
   have q208' := (q200'.below hB29.below (Nat.le_refl _))
   have q209' := (q201'.below hB29.below (Nat.le_refl _))
   refine hK39 _ _ ?_
   have k29_6 := kt hg29 6 k28_6
   have k29_9 := kt hg29 9 k28_9
   have k29_17 := kt hg29 17 k28_17
   have k29_18 := kt hg29 18 k28_18
   have k29_130 := kt hg29 130 (hB29.is 8)
   refine wp_cond_false ((fr_eval rfl).trans k29_130) ?_
   refine wp_skip ?_
   refine inBlock_normal ?_
   refine hK38 _ _ ?_
   refine region_dk 3 [(120, 0), (121, 1), (18, 2)] [[], [0], [0, 1]] (rel [is (.int .i64 ((i : Int))),
   is (.int .i64 ((i : Int) + 1)),
   is (.int .i64 ((i : Int) + 1))])
    ⟨is_k, is_k, is_k, trivial⟩
    ⟨fun f s W l m p q r j => opv rfl rfl (by simp [go_sem, j.e 18 ((q 2 18 rfl rfl).trans k29_18)]) rfl,
  fun f s W l m p q r j => opv rfl rfl (by simp [go_sem, j.e 120 (m 0 rfl), IntWalk.i64_in ((i : Int) + 1) (by omega)]) rfl,
  fun f s W l m p q r j => opv rfl rfl (by simp [go_sem, j.e 121 (m 1 rfl)]) rfl, trivial⟩ ?_
   intro f30 s30 W30 hB30 g30 hg30
   have fB30 := below_trans fB29 hB30.below
   have z30 := hB30.below.size
   have b30_0 := blk_below b29_0 hB30.below
   have b30_1 := blk_below b29_1 hB30.below
   have b30_2 := blk_below b29_2 hB30.below
   have b30_3 := blk_below b29_3 hB30.below
   have b30_4 := blk_below b29_4 hB30.below
   have q210' := (q202'.below hB30.below (Nat.le_refl _))
   have q211' := (Nat.lt_of_lt_of_le q203' (Below.size hB30.below))
   have q212' := (q204'.below hB30.below (Nat.le_refl _))
   have q213' := (Nat.lt_of_lt_of_le q205' (Below.size hB30.below))
   have q214' := (q206'.below hB30.below (Nat.le_refl _))
   have q215' := (Nat.lt_of_lt_of_le q207' (Below.size hB30.below))
   have q216' := (q208'.below hB30.below (Nat.le_refl _))
   have q217' := (q209'.below hB30.below (Nat.le_refl _))
   refine wpOps_end ?_
   have k30_6 := kt hg30 6 k29_6
   have k30_9 := kt hg30 9 k29_9
   have k30_17 := kt hg30 17 k29_17
   have k30_18 := kt hg30 18 (hB30.is 2)
   refine then_normal ?_
   exact ⟨_, by omega, g30, rfl, i + 1, rfl, k30_6, k30_9, k30_17, k30_18.trans (by go_num), fB30, (by omega), b30_0, b30_1, b30_2, b30_3, b30_4, q210', q211', q212', q213', q214', q215', q216', q217', (by omega)⟩
  ·
   have hc37' := hc37; try simp only [decide_eq_true_eq, decide_eq_false_iff_not, Bool.and_eq_true, Bool.or_eq_true, Bool.and_eq_false_iff, Bool.or_eq_false_iff, beq_iff_eq, bne_iff_ne, Bool.not_eq_true', Bool.not_eq_false', ne_eq, bne_eq_false_iff_eq, beq_eq_false_iff_ne] at hc37'
   refine wp_exit ?_
   refine then_exit ?_
   refine then_exit ?_
   refine inBlock_at ?_
   refine hK33 _ _ ?_
   refine wp_seq_k fun K41 hK41 => ?_
   refine region_dk 2 [(131, 0), (6, 1)] [[], [0]] (rel [is (.bool true),
   is (.bool true)])
    ⟨is_k, is_k, trivial⟩
    ⟨fun f s W l m p q r j => opc rfl rfl (by simp [go_sem]) (known_any W),
  fun f s W l m p q r j => opv rfl rfl (by simp [go_sem, j.e 131 (m 0 rfl)]) rfl, trivial⟩ ?_
   intro f31 s31 W31 hB31 g31 hg31
   have fB31 := below_trans fB28 hB31.below
   have z31 := hB31.below.size
   have b31_0 := blk_below b28_0 hB31.below
   have b31_1 := blk_below b28_1 hB31.below
   have b31_2 := blk_below b28_2 hB31.below
   have b31_3 := blk_below b28_3 hB31.below
   have b31_4 := blk_below b28_4 hB31.below
   have q218' := (q194'.below hB31.below (Nat.le_refl _))
   have q219' := (Nat.lt_of_lt_of_le q195' (Below.size hB31.below))
   have q220' := (q196'.below hB31.below (Nat.le_refl _))
   have q221' := (Nat.lt_of_lt_of_le q197' (Below.size hB31.below))
   have q222' := (q198'.below hB31.below (Nat.le_refl _))
   have q223' := (Nat.lt_of_lt_of_le q199' (Below.size hB31.below))
   have q224' := (q200'.below hB31.below (Nat.le_refl _))
   have q225' := (q201'.below hB31.below (Nat.le_refl _))
   refine hK41 _ _ ?_
   have k31_6 := kt hg31 6 (hB31.is 1)
   refine wp_ret ?_
   refine leave_one (N := 132) (v := .bool true) (.inr rfl) Tryz.results4 rfl k31_6 ?_
   exact ⟨rfl, fB31⟩
theorem closes_law (a1 a2 a3 : Option Addr) (c1 c2 c3 : Nat) (b : Bl) (l1 h1' l2 h2' l3 h3' l4 h4' l5 h5' : Int) (wo : Bool) (lo hi : Int) (w : World) (h1 : Ii w a1 b.panels.length c1 b.panels) (h2 : Ii w a2 b.top.length c2 b.top) (h3 : Ii w a3 b.bottom.length c3 b.bottom) : Calls Tryz.prog 4 #[.agg #[.int .i64 b.tab, .slice (a1) (b.panels.length) (c1), .int .i64 b.height, .slice (a2) (b.top.length) (c2), .slice (a3) (b.bottom.length) (c3), .int .i64 b.slot, .bool b.isOpen], .agg #[.int .i64 l1, .int .i64 (h1'), .int .i64 l2, .int .i64 (h2'), .int .i64 l3, .int .i64 (h3'), .int .i64 l4, .int .i64 (h4'), .int .i64 l5, .int .i64 (h5'), .bool wo], .agg #[.int .i64 lo, .int .i64 hi]] w (fun e w' => e = .returned (.bool true) ∧ Below w.heap.size w w') := by
  cases hl : largeB b with
  | true => exact closes_large a1 a2 a3 c1 c2 c3 b l1 h1' l2 h2' l3 h3' l4 h4' l5 h5' wo lo hi w h1 h2 h3 hl
  | false => exact closes_main a1 a2 a3 c1 c2 c3 b l1 h1' l2 h2' l3 h3' l4 h4' l5 h5' wo lo hi w h1 h2 h3 _ _ _ _ _ _ _ hl rfl rfl rfl rfl rfl rfl
end Go.Proofs.YthnediamopehfaaGreat
