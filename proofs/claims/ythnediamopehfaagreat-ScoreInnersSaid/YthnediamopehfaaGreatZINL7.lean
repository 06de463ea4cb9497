/- Part of the proof: what the claim leans on. -/
import Derived.Test.YthnediamopehfaaGreatZINS6
set_option linter.unusedSimpArgs false
set_option linter.unusedVariables false
namespace Go.Proofs.YthnediamopehfaaGreat
open Go.RowKit
set_option maxRecDepth 100000 in
set_option maxHeartbeats 400000 in
theorem inners_large (a1 a2 a3 : Option Addr) (c1 c2 c3 : Nat) (b : Bl) (lo hi off : Int) (w : World) (h1 : Ii w a1 b.panels.length c1 b.panels) (h2 : Ii w a2 b.top.length c2 b.top) (h3 : Ii w a3 b.bottom.length c3 b.bottom) (hl : largeB b = true) :
  Calls Tryz.prog 3 #[.agg #[.int .i64 b.tab, .slice (a1) (b.panels.length) (c1), .int .i64 b.height, .slice (a2) (b.top.length) (c2), .slice (a3) (b.bottom.length) (c3), .int .i64 b.slot, .bool b.isOpen], .agg #[.int .i64 lo, .int .i64 hi], .int .i64 off] w (fun e w' => e = .returned (.bool true) ∧ Below w.heap.size w w') := by
 have hm1 := h1.len_le
 have hm2 := h2.len_le
 have hm3 := h3.len_le
 refine calls_fr Tryz.func3 Tryz.ntmps3 rfl rfl fun g hg => ?_
 have k0 : g 0 = .agg #[.int .i64 b.tab, .slice (a1) (b.panels.length) (c1), .int .i64 b.height, .slice (a2) (b.top.length) (c2), .slice (a3) (b.bottom.length) (c3), .int .i64 b.slot, .bool b.isOpen] := hg 0
 have k1 : g 1 = .agg #[.int .i64 lo, .int .i64 hi] := hg 1
 have k2 : g 2 = .int .i64 off := hg 2
 clear hg
 have fB0 : Below w.heap.size w w := Below.refl _ _
 refine wp_seq_k fun K1 hK1 => ?_
 refine region_dk 3 [(3, 0), (4, 1), (6, 2)] [[], [], []] (rel [bx 0 #[.int .i64 b.tab, .slice (a1) (b.panels.length) (c1), .int .i64 b.height, .slice (a2) (b.top.length) (c2), .slice (a3) (b.bottom.length) (c3), .int .i64 b.slot, .bool b.isOpen] 24,
   bx 1 #[.int .i64 lo, .int .i64 hi] 26,
   is (.bool false)])
  ⟨bx_k, bx_k, is_k, trivial⟩
  ⟨fun f s W c d i j k a => opb rfl rfl (by simp [go_sem, a.e 0 k0]),
  fun f s W c d i j k a => opb rfl rfl (by simp [go_sem, a.e 1 k1]),
  fun f s W c d i j k a => opv rfl rfl (by simp [go_sem]) rfl, trivial⟩ ?_
 intro f1 s1 W1 hB1 g1 hg1
 have fB1 := hB1.f fB0
 have z1 := hB1.below.size
 obtain ⟨r1_0, br1_0⟩ := hB1.is 0
 have lr1_0 := hB1.lr 0 br1_0
 obtain ⟨r1_1, br1_1⟩ := hB1.is 1
 have lr1_1 := hB1.lr 1 br1_1
 have ne1_0_1 := hB1.nb 0 1
 refine hK1 _ _ ?_
 have k1_2 := kt hg1 2 k2
 have k1_3 := kt hg1 3 r1_0
 have k1_4 := kt hg1 4 r1_1
 have k1_6 := kt hg1 6 (hB1.is 2)
 refine wp_seq_k fun K2 hK2 => ?_
 refine wp_seq_k fun K3 hK3 => ?_
 refine region_dk 2 [(14, 0), (15, 1)] [[], [0]] (rel [is (.agg #[.int .i64 b.tab, .slice (a1) (b.panels.length) (c1), .int .i64 b.height, .slice (a2) (b.top.length) (c2), .slice (a3) (b.bottom.length) (c3), .int .i64 b.slot, .bool b.isOpen]),
   is (.bool true)])
  ⟨is_k, is_k, trivial⟩
  ⟨fun f s W c d i j k a => opv rfl rfl (by simp [go_sem, a.e 3 k1_3, cb br1_0 c 0, cb br1_0 c 1, cb br1_0 c 2, cb br1_0 c 3, cb br1_0 c 4, cb br1_0 c 5, cb br1_0 c 6]) rfl,
  fun f s W c d i j k a => by have l := below_trans fB1 c; exact opDo_call rfl rfl (by simp [go_sem, a.e 14 (d 0 rfl)]) (large_any a1 a2 a3 c1 c2 c3 b W (h1.below l (Nat.le_refl _)) (h2.below l (Nat.le_refl _)) (h3.below l (Nat.le_refl _))) ((fun e W' h => by have h1 := h.1; rw [hl] at h1; exact ⟨_, h1, h.2, rfl⟩)), trivial⟩ ?_
 intro f2 s2 W2 hB2 g2 hg2
 have fB2 := hB2.f fB1
 have z2 := hB2.below.size
 have b2_0 := hB2.b br1_0
 have b2_1 := hB2.b br1_1
 refine hK3 _ _ ?_
 have k2_2 := kt hg2 2 k1_2
 have k2_3 := kt hg2 3 k1_3
 have k2_4 := kt hg2 4 k1_4
 have k2_6 := kt hg2 6 k1_6
 have k2_15 := kt hg2 15 (hB2.is 1)
 refine wp_cond_true ((fr_eval rfl).trans k2_15) ?_
 refine wp_seq_k fun K5 hK5 => ?_
 refine region_dk 2 [(16, 0), (6, 1)] [[], [0]] (rel [is (.bool true),
   is (.bool true)])
  ⟨is_k, is_k, trivial⟩
  ⟨fun f s W c d i j k a => opc rfl rfl (by simp [go_sem]) (known_any W),
  fun f s W c d i j k a => opv rfl rfl (by simp [go_sem, a.e 16 (d 0 rfl)]) rfl, trivial⟩ ?_
 intro f3 s3 W3 hB3 g3 hg3
 have fB3 := hB3.f fB2
 have z3 := hB3.below.size
 have b3_0 := hB3.b b2_0
 have b3_1 := hB3.b b2_1
 refine hK5 _ _ ?_
 have k3_2 := kt hg3 2 k2_2
 have k3_3 := kt hg3 3 k2_3
 have k3_4 := kt hg3 4 k2_4
 have k3_6 := kt hg3 6 (hB3.is 1)
 refine wp_ret ?_
 refine then_ret ?_
 refine leave_one (N := 94) (v := .bool true) (.inr rfl) Tryz.results3 rfl k3_6 ?_
 exact ⟨rfl, fB3⟩
set_option maxRecDepth 100000 in
set_option maxHeartbeats 2000000 in
theorem inners_bad1 (a1 a2 a3 : Option Addr) (c1 c2 c3 : Nat) (b : Bl) (lo hi off : Int) (w : World) (h1 : Ii w a1 b.panels.length c1 b.panels) (h2 : Ii w a2 b.top.length c2 b.top) (h3 : Ii w a3 b.bottom.length c3 b.bottom) (hof : -9223372036854775808 ≤ off ∧ off ≤ 9223372036854775807) (hl : largeB b = false) (x : Int) (hx : checkErr b = x) (hn : (x != 0) = true) :
  Calls Tryz.prog 3 #[.agg #[.int .i64 b.tab, .slice (a1) (b.panels.length) (c1), .int .i64 b.height, .slice (a2) (b.top.length) (c2), .slice (a3) (b.bottom.length) (c3), .int .i64 b.slot, .bool b.isOpen], .agg #[.int .i64 lo, .int .i64 hi], .int .i64 off] w (fun e w' => e = .returned (.bool true) ∧ Below w.heap.size w w') := by
 have hm1 := h1.len_le
 have hm2 := h2.len_le
 have hm3 := h3.len_le
 obtain ⟨m1, m2, m3⟩ := large_false hl
 have n1 : b.panels.length ≤ 1000 := by omega
 have n2 : b.top.length ≤ 1000 := by omega
 have n3 : b.bottom.length ≤ 1000 := by omega
 have hn0 : (x == 0) = false := beq_eq_false_iff_ne.2 (bne_iff_ne.1 hn)
 refine calls_fr Tryz.func3 Tryz.ntmps3 rfl rfl fun g hg => ?_
 have k0 : g 0 = .agg #[.int .i64 b.tab, .slice (a1) (b.panels.length) (c1), .int .i64 b.height, .slice (a2) (b.top.length) (c2), .slice (a3) (b.bottom.length) (c3), .int .i64 b.slot, .bool b.isOpen] := hg 0
 have k1 : g 1 = .agg #[.int .i64 lo, .int .i64 hi] := hg 1
 have k2 : g 2 = .int .i64 off := hg 2
 clear hg
 have fB0 : Below w.heap.size w w := Below.refl _ _
 refine wp_seq_k fun K1 hK1 => ?_
 refine region_dk 3 [(3, 0), (4, 1), (6, 2)] [[], [], []] (rel [bx 0 #[.int .i64 b.tab, .slice (a1) (b.panels.length) (c1), .int .i64 b.height, .slice (a2) (b.top.length) (c2), .slice (a3) (b.bottom.length) (c3), .int .i64 b.slot, .bool b.isOpen] 24,
   bx 1 #[.int .i64 lo, .int .i64 hi] 26,
   is (.bool false)])
  ⟨bx_k, bx_k, is_k, trivial⟩
  ⟨fun f s W j l m p q i => opb rfl rfl (by simp [go_sem, i.e 0 k0]),
  fun f s W j l m p q i => opb rfl rfl (by simp [go_sem, i.e 1 k1]),
  fun f s W j l m p q i => opv rfl rfl (by simp [go_sem]) rfl, trivial⟩ ?_
 intro f1 s1 W1 hB1 g1 hg1
 have fB1 := hB1.f fB0
 have z1 := hB1.below.size
 obtain ⟨r1_0, br1_0⟩ := hB1.is 0
 have lr1_0 := hB1.lr 0 br1_0
 obtain ⟨r1_1, br1_1⟩ := hB1.is 1
 have lr1_1 := hB1.lr 1 br1_1
 have ne1_0_1 := hB1.nb 0 1
 refine hK1 _ _ ?_
 have k1_2 := kt hg1 2 k2
 have k1_3 := kt hg1 3 r1_0
 have k1_4 := kt hg1 4 r1_1
 have k1_6 := kt hg1 6 (hB1.is 2)
 refine wp_seq_k fun K2 hK2 => ?_
 refine wp_seq_k fun K3 hK3 => ?_
 refine region_dk 2 [(14, 0), (15, 1)] [[], [0]] (rel [is (.agg #[.int .i64 b.tab, .slice (a1) (b.panels.length) (c1), .int .i64 b.height, .slice (a2) (b.top.length) (c2), .slice (a3) (b.bottom.length) (c3), .int .i64 b.slot, .bool b.isOpen]),
   is (.bool false)])
  ⟨is_k, is_k, trivial⟩
  ⟨fun f s W j l m p q i => opv rfl rfl (by simp [go_sem, i.e 3 k1_3, cb br1_0 j 0, cb br1_0 j 1, cb br1_0 j 2, cb br1_0 j 3, cb br1_0 j 4, cb br1_0 j 5, cb br1_0 j 6]) rfl,
  fun f s W j l m p q i => by have r := below_trans fB1 j; exact opDo_call rfl rfl (by simp [go_sem, i.e 14 (l 0 rfl)]) (large_any a1 a2 a3 c1 c2 c3 b W (h1.below r (Nat.le_refl _)) (h2.below r (Nat.le_refl _)) (h3.below r (Nat.le_refl _))) ((fun e W' h => by have h1 := h.1; rw [hl] at h1; exact ⟨_, h1, h.2, rfl⟩)), trivial⟩ ?_
 intro f2 s2 W2 hB2 g2 hg2
 have fB2 := hB2.f fB1
 have z2 := hB2.below.size
 have b2_0 := hB2.b br1_0
 have b2_1 := hB2.b br1_1
 refine hK3 _ _ ?_
 have k2_2 := kt hg2 2 k1_2
 have k2_3 := kt hg2 3 k1_3
 have k2_4 := kt hg2 4 k1_4
 have k2_6 := kt hg2 6 k1_6
 have k2_15 := kt hg2 15 (hB2.is 1)
 refine wp_cond_false ((fr_eval rfl).trans k2_15) ?_
 refine wp_skip ?_
 refine hK2 _ _ ?_
 refine wp_seq_k fun K5 hK5 => ?_
 refine region_dk 3 [(17, 0), (18, 1), (7, 2)] [[], [0], [], [0, 1, 2]] (rel [is (.agg #[.int .i64 b.tab, .slice (a1) (b.panels.length) (c1), .int .i64 b.height, .slice (a2) (b.top.length) (c2), .slice (a3) (b.bottom.length) (c3), .int .i64 b.slot, .bool b.isOpen]),
   fun v s W => NwBlk (s 1) (b) v W,
   bx 2 #[.int .i64 0, .slice (none) (0) (0), .int .i64 0, .slice (none) (0) (0), .slice (none) (0) (0), .int .i64 0, .bool false] 24])
  ⟨is_k, ⟨fun v k W W' hb h => h.below hb, fun v s s' W e h => by have h' : NwBlk (s 1) (b) v W := h; show NwBlk (s' 1) (b) v W; rw [← e 1 (by simp)]; exact h'⟩, bx_k, trivial⟩
  ⟨fun f s W j l m p q i => opv rfl rfl (by simp [go_sem, i.e 3 k2_3, cb b2_0 j 0, cb b2_0 j 1, cb b2_0 j 2, cb b2_0 j 3, cb b2_0 j 4, cb b2_0 j 5, cb b2_0 j 6]) rfl,
  fun f s W j l m p q i => by have r := below_trans fB2 j; exact opDo_call rfl rfl (by simp [go_sem, i.e 17 (l 0 rfl)]) (own_any a1 a2 a3 c1 c2 c3 b W (h1.below r (Nat.le_refl _)) (h2.below r (Nat.le_refl _)) (h3.below r (Nat.le_refl _)) n1 n2 n3) (fun e W' h => by obtain ⟨v, e1, h1, h2⟩ := h; exact ⟨v, e1, h2, (show NwBlk (upd s 1 W.heap.size 1) (b) v W' from by rw [upd_at]; exact h1)⟩),
  fun f s W j l m p q i => opb rfl rfl (by simp [go_sem]), trivial⟩ ?_
 intro f3 s3 W3 hB3 g3 hg3
 have fB3 := hB3.f fB2
 have z3 := hB3.below.size
 have b3_0 := hB3.b b2_0
 have b3_1 := hB3.b b2_1
 have la3_1_1 := hB3.from' 1 (by decide)
 obtain ⟨g1', c4', g2', c5', g3', c6', r3_1, ⟨q7', q9', q8'⟩, ⟨q10', q12', q11'⟩, ⟨q13', q15', q14'⟩⟩ := hB3.is 1
 obtain ⟨r3_2, br3_2⟩ := hB3.is 2
 have lr3_2 := hB3.lr 2 br3_2
 have la3_1 := hB3.from' 1 (by decide)
 have of3_1_2_0 := hB3.off 1 2 (by decide) (by decide) (by decide) q9' (fun W h => (NwBlk.lt h r3_1).1) (fun _ _ _ h => lt_of_blk h.2)
 have of3_1_2_1 := hB3.off 1 2 (by decide) (by decide) (by decide) q12' (fun W h => (NwBlk.lt h r3_1).2.1) (fun _ _ _ h => lt_of_blk h.2)
 have of3_1_2_2 := hB3.off 1 2 (by decide) (by decide) (by decide) q15' (fun W h => (NwBlk.lt h r3_1).2.2) (fun _ _ _ h => lt_of_blk h.2)
 have k3_2 := kt hg3 2 k2_2
 have k3_3 := kt hg3 3 k2_3
 have k3_4 := kt hg3 4 k2_4
 have k3_6 := kt hg3 6 k2_6
 have k3_18 := kt hg3 18 r3_1
 have k3_7 := kt hg3 7 r3_2
 obtain ⟨W4, hW4⟩ : ∃ W', W' = W3.setRow (s3 2) #[.int .i64 b.tab, .slice (some ⟨g1', 0, none⟩) (b.panels.length) (c4'), .int .i64 b.height, .slice (some ⟨g2', 0, none⟩) (b.top.length) (c5'), .slice (some ⟨g3', 0, none⟩) (b.bottom.length) (c6'), .int .i64 b.slot, .bool b.isOpen] := ⟨_, rfl⟩
 refine tail_skip (o := _) rfl ⟨rfl, rfl⟩ (run_seg hW4 (fr_ev k3_7) (fr_ev k3_18) br3_2 rfl rfl rfl rfl) ?_
 obtain ⟨fB4, nb4, ot4, z4⟩ := seg_facts hW4 fB3 br3_2 (by omega)
 clear hW4
 have b4_0 := ot4 _ _ (by omega) b3_0
 have b4_1 := ot4 _ _ (by omega) b3_1
 have q16' := (q7'.other ot4 q8' (by omega) z4)
 have q17' := Nat.lt_of_lt_of_le q8' z4
 have q18' := (q10'.other ot4 q11' (by omega) z4)
 have q19' := Nat.lt_of_lt_of_le q11' z4
 have q20' := (q13'.other ot4 q14' (by omega) z4)
 have q21' := Nat.lt_of_lt_of_le q14' z4
 refine wpOps_end ?_
 refine hK5 _ _ ?_
 refine wp_seq_k fun K6 hK6 => ?_
 refine region_dk 9 [(20, 0), (21, 1), (22, 2), (23, 3), (19, 4), (24, 5), (25, 6), (8, 7), (9, 8)] [[], [], [], [0, 1, 2], [0, 1, 2, 3], [0, 1, 2, 3, 4], [0, 1, 2, 3, 4], [0, 1, 2, 3, 4, 5], [0, 1, 2, 3, 4, 5, 6, 7]] (rel [is (.agg #[.int .i64 b.tab, .slice (some ⟨g1', 0, none⟩) (b.panels.length) (c4'), .int .i64 b.height, .slice (some ⟨g2', 0, none⟩) (b.top.length) (c5'), .slice (some ⟨g3', 0, none⟩) (b.bottom.length) (c6'), .int .i64 b.slot, .bool b.isOpen]),
   is (.agg #[.int .i64 lo, .int .i64 hi]),
   is (.int .i64 off),
   ab fun v W => ∃ x0, v = .tuple #[x0, .int .i64 x] ∧ IsNil x0 W,
   ab fun v W => ∃ x0, v = .tuple #[x0, .int .i64 x] ∧ IsNil x0 W,
   ab fun v W => IsNil v W,
   is (.int .i64 x),
   ab fun v W => IsNil v W,
   is (.int .i64 x)])
  ⟨is_k, is_k, is_k, ab_k fun v W W' hb ⟨x0, e, h0⟩ => ⟨x0, e, h0⟩, ab_k fun v W W' hb ⟨x0, e, h0⟩ => ⟨x0, e, h0⟩, ab_k fun v W W' hb h => h, is_k, ab_k fun v W W' hb h => h, is_k, trivial⟩
  ⟨fun f s W j l m p q i => opv rfl rfl (by simp [go_sem, i.e 7 k3_7, cb nb4 j 0, cb nb4 j 1, cb nb4 j 2, cb nb4 j 3, cb nb4 j 4, cb nb4 j 5, cb nb4 j 6]) rfl,
  fun f s W j l m p q i => opv rfl rfl (by simp [go_sem, i.e 4 k3_4, cb b4_1 j 0, cb b4_1 j 1]) rfl,
  fun f s W j l m p q i => opv rfl rfl (by simp [go_sem, i.e 2 k3_2]) rfl,
  fun f s W j l m p q i => opDo_call (args := #[.agg #[.int .i64 b.tab, .slice (some ⟨g1', 0, none⟩) (b.panels.length) (c4'), .int .i64 b.height, .slice (some ⟨g2', 0, none⟩) (b.top.length) (c5'), .slice (some ⟨g3', 0, none⟩) (b.bottom.length) (c6'), .int .i64 b.slot, .bool b.isOpen], .agg #[.int .i64 lo, .int .i64 hi], .int .i64 off]) rfl rfl (by simp [go_sem, i.e 20 (l 0 rfl), i.e 21 (l 1 rfl), i.e 22 (l 2 rfl)]) (inner_any _ b lo hi off W ⟨_, _, _, _, _, _, _, _, _, rfl, ((q16'.below j (Nat.le_refl _))), ((q18'.below j (Nat.le_refl _))), ((q20'.below j (Nat.le_refl _)))⟩ hof.1 hof.2) ((fun e W' h => by obtain ⟨a, n, c, e1, h1, h2⟩ := h; rw [(inner_e1 hx hn)] at e1; rw [if_neg (by rw [(inner_e1 hx hn)]; exact (bne_iff_ne.1 hn))] at h1; exact ⟨_, e1, h2, _, rfl, isNilP_of h1 rfl⟩)),
  fun f s W j l m p q i => opv (v := (f 3)) rfl rfl (by simp [go_sem, (i.at' 23 rfl : q.tmps[23]?.getD undef = f 3)] <;> rfl) (l 3 rfl),
  fun f s W j l m p q i => by obtain ⟨x4_0, d4, p4_0⟩ := (l 4 rfl); exact opv (v := x4_0) rfl rfl (by simp [go_sem, i.e 19 d4]) p4_0,
  fun f s W j l m p q i => by obtain ⟨x4_0, d4, p4_0⟩ := (l 4 rfl); exact opv rfl rfl (by simp [go_sem, i.e 19 d4]) rfl,
  fun f s W j l m p q i => opv (v := (f 5)) rfl rfl (by simp [go_sem, (i.at' 24 rfl : q.tmps[24]?.getD undef = f 5)] <;> rfl) (l 5 rfl),
  fun f s W j l m p q i => opv rfl rfl (by simp [go_sem, i.e 25 (l 6 rfl)]) rfl, trivial⟩ ?_
 intro f5 s5 W5 hB5 g5 hg5
 have fB5 := hB5.f fB4
 have z5 := hB5.below.size
 have b5_0 := hB5.b b4_0
 have b5_1 := hB5.b b4_1
 have b5_2 := hB5.b nb4
 have q24' := (q16'.bw hB5)
 have q25' := (hB5.lt q17')
 have q26' := (q18'.bw hB5)
 have q27' := (hB5.lt q19')
 have q28' := (q20'.bw hB5)
 have q29' := (hB5.lt q21')
 obtain ⟨a30', c31', r5_7⟩ := hB5.is 7
 refine hK6 _ _ ?_
 have k5_2 := kt hg5 2 k3_2
 have k5_3 := kt hg5 3 k3_3
 have k5_4 := kt hg5 4 k3_4
 have k5_6 := kt hg5 6 k3_6
 have k5_7 := kt hg5 7 k3_7
 have k5_8 := kt hg5 8 r5_7
 have k5_9 := kt hg5 9 (hB5.is 8)
 refine wp_seq_k fun K7 hK7 => ?_
 refine wp_seq_k fun K8 hK8 => ?_
 refine region_dk 4 [(26, 0), (27, 1), (28, 2), (29, 3)] [[], [], [0, 1], [0, 1, 2]] (rel [is (.agg #[.int .i64 b.tab, .slice (some ⟨g1', 0, none⟩) (b.panels.length) (c4'), .int .i64 b.height, .slice (some ⟨g2', 0, none⟩) (b.top.length) (c5'), .slice (some ⟨g3', 0, none⟩) (b.bottom.length) (c6'), .int .i64 b.slot, .bool b.isOpen]),
   is (.agg #[.int .i64 b.tab, .slice (a1) (b.panels.length) (c1), .int .i64 b.height, .slice (a2) (b.top.length) (c2), .slice (a3) (b.bottom.length) (c3), .int .i64 b.slot, .bool b.isOpen]),
   is (.bool true),
   is (.bool false)])
  ⟨is_k, is_k, is_k, is_k, trivial⟩
  ⟨fun f s W j l m p q i => opv rfl rfl (by simp [go_sem, i.e 7 k5_7, cb b5_2 j 0, cb b5_2 j 1, cb b5_2 j 2, cb b5_2 j 3, cb b5_2 j 4, cb b5_2 j 5, cb b5_2 j 6]) rfl,
  fun f s W j l m p q i => opv rfl rfl (by simp [go_sem, i.e 3 k5_3, cb b5_0 j 0, cb b5_0 j 1, cb b5_0 j 2, cb b5_0 j 3, cb b5_0 j 4, cb b5_0 j 5, cb b5_0 j 6]) rfl,
  fun f s W j l m p q i => by have r := below_trans fB5 j; exact opDo_call (args := #[.agg #[.int .i64 b.tab, .slice (some ⟨g1', 0, none⟩) (b.panels.length) (c4'), .int .i64 b.height, .slice (some ⟨g2', 0, none⟩) (b.top.length) (c5'), .slice (some ⟨g3', 0, none⟩) (b.bottom.length) (c6'), .int .i64 b.slot, .bool b.isOpen], .agg #[.int .i64 b.tab, .slice (a1) (b.panels.length) (c1), .int .i64 b.height, .slice (a2) (b.top.length) (c2), .slice (a3) (b.bottom.length) (c3), .int .i64 b.slot, .bool b.isOpen]]) rfl rfl (by simp [go_sem, i.e 26 (l 0 rfl), i.e 27 (l 1 rfl)]) (same_blk (b := b) (d := b) ⟨_, _, _, _, _, _, _, _, _, rfl, ((q24'.below j (Nat.le_refl _))), ((q26'.below j (Nat.le_refl _))), ((q28'.below j (Nat.le_refl _)))⟩ ⟨_, _, _, _, _, _, _, _, _, rfl, (h1.below r (Nat.le_refl _)), (h2.below r (Nat.le_refl _)), (h3.below r (Nat.le_refl _))⟩) ((fun e W' h => by have h1 := h.1; rw [sameB_self] at h1; exact ⟨_, h1, h.2, rfl⟩)),
  fun f s W j l m p q i => opv rfl rfl (by simp [go_sem, i.e 28 (l 2 rfl)]) rfl, trivial⟩ ?_
 intro f6 s6 W6 hB6 g6 hg6
 have fB6 := hB6.f fB5
 have z6 := hB6.below.size
 have b6_0 := hB6.b b5_0
 have b6_1 := hB6.b b5_1
 have b6_2 := hB6.b b5_2
 have q32' := (q24'.bw hB6)
 have q33' := (hB6.lt q25')
 have q34' := (q26'.bw hB6)
 have q35' := (hB6.lt q27')
 have q36' := (q28'.bw hB6)
 have q37' := (hB6.lt q29')
 refine hK8 _ _ ?_
 have k6_2 := kt hg6 2 k5_2
 have k6_3 := kt hg6 3 k5_3
 have k6_4 := kt hg6 4 k5_4
 have k6_6 := kt hg6 6 k5_6
 have k6_8 := kt hg6 8 k5_8
 have k6_9 := kt hg6 9 k5_9
 have k6_29 := kt hg6 29 (hB6.is 3)
 refine wp_cond_false ((fr_eval rfl).trans k6_29) ?_
 refine wp_skip ?_
 refine hK7 _ _ ?_
 refine wp_seq_k fun K10 hK10 => ?_
 refine region_dk 3 [(30, 0), (31, 1), (10, 2)] [[], [0], [0, 1]] (rel [is (.agg #[.int .i64 b.tab, .slice (a1) (b.panels.length) (c1), .int .i64 b.height, .slice (a2) (b.top.length) (c2), .slice (a3) (b.bottom.length) (c3), .int .i64 b.slot, .bool b.isOpen]),
   is (.int .i64 x),
   is (.int .i64 x)])
  ⟨is_k, is_k, is_k, trivial⟩
  ⟨fun f s W j l m p q i => opv rfl rfl (by simp [go_sem, i.e 3 k6_3, cb b6_0 j 0, cb b6_0 j 1, cb b6_0 j 2, cb b6_0 j 3, cb b6_0 j 4, cb b6_0 j 5, cb b6_0 j 6]) rfl,
  fun f s W j l m p q i => by have r := below_trans fB6 j; exact opDo_call (args := #[.agg #[.int .i64 b.tab, .slice (a1) (b.panels.length) (c1), .int .i64 b.height, .slice (a2) (b.top.length) (c2), .slice (a3) (b.bottom.length) (c3), .int .i64 b.slot, .bool b.isOpen]]) rfl rfl (by simp [go_sem, i.e 30 (l 0 rfl)]) (refCheck_blk ⟨_, _, _, _, _, _, _, _, _, rfl, (h1.below r (Nat.le_refl _)), (h2.below r (Nat.le_refl _)), (h3.below r (Nat.le_refl _))⟩) ((fun e W' h => by have h1 := h.1; rw [refCheck_eq, hx] at h1; exact ⟨_, h1, h.2, rfl⟩)),
  fun f s W j l m p q i => opv rfl rfl (by simp [go_sem, i.e 31 (l 1 rfl)]) rfl, trivial⟩ ?_
 intro f7 s7 W7 hB7 g7 hg7
 have fB7 := hB7.f fB6
 have z7 := hB7.below.size
 have b7_0 := hB7.b b6_0
 have b7_1 := hB7.b b6_1
 have b7_2 := hB7.b b6_2
 have q38' := (q32'.bw hB7)
 have q39' := (hB7.lt q33')
 have q40' := (q34'.bw hB7)
 have q41' := (hB7.lt q35')
 have q42' := (q36'.bw hB7)
 have q43' := (hB7.lt q37')
 refine hK10 _ _ ?_
 have k7_2 := kt hg7 2 k6_2
 have k7_3 := kt hg7 3 k6_3
 have k7_4 := kt hg7 4 k6_4
 have k7_6 := kt hg7 6 k6_6
 have k7_8 := kt hg7 8 k6_8
 have k7_9 := kt hg7 9 k6_9
 have k7_10 := kt hg7 10 (hB7.is 2)
 refine wp_seq_k fun K11 hK11 => ?_
 refine wp_seq_k fun K12 hK12 => ?_
 refine region_dk 7 [(32, 0), (33, 1), (34, 2), (35, 3), (36, 4), (37, 5), (38, 6)] [[], [0], [0, 1], [0, 1, 2], [0, 1, 2, 3], [0, 1, 2, 3, 4], [0, 1, 2, 3, 4, 5]] (rel [is (.int .i64 x),
   is (.bool false),
   is (.bool false),
   gd (false) true (fun _ _ _ => True),
   gd (false) true (fun _ _ _ => True),
   gd (false) true (fun _ _ _ => True),
   is (.bool false)])
  ⟨is_k, is_k, is_k, gdt_k, gdt_k, gdt_k, is_k, trivial⟩
  ⟨fun f s W j l m p q i => opv rfl rfl (by simp [go_sem, i.e 10 k7_10]) rfl,
  fun f s W j l m p q i => opv rfl rfl (by simp [go_sem, i.e 32 (l 0 rfl), hn0]) rfl,
  fun f s W j l m p q i => opv rfl rfl (by simp [go_sem, i.e 33 (l 1 rfl)]) rfl,
  fun f s W j l m p q i => gno (i.says (d := 34) rfl rfl (l 2 rfl)),
  fun f s W j l m p q i => gno (i.says (d := 34) rfl rfl (l 2 rfl)),
  fun f s W j l m p q i => gno (i.says (d := 34) rfl rfl (l 2 rfl)),
  fun f s W j l m p q i => opk (c := false) rfl rfl (fun _ => by simp [go_sem, i.e 34 (l 2 rfl)]) (fun h => absurd h (by decide)), trivial⟩ ?_
 intro f8 s8 W8 hB8 g8 hg8
 have fB8 := hB8.f fB7
 have z8 := hB8.below.size
 have b8_0 := hB8.b b7_0
 have b8_1 := hB8.b b7_1
 have b8_2 := hB8.b b7_2
 have q44' := (q38'.bw hB8)
 have q45' := (hB8.lt q39')
 have q46' := (q40'.bw hB8)
 have q47' := (hB8.lt q41')
 have q48' := (q42'.bw hB8)
 have q49' := (hB8.lt q43')
 refine hK12 _ _ ?_
 have k8_2 := kt hg8 2 k7_2
 have k8_3 := kt hg8 3 k7_3
 have k8_4 := kt hg8 4 k7_4
 have k8_6 := kt hg8 6 k7_6
 have k8_8 := kt hg8 8 k7_8
 have k8_9 := kt hg8 9 k7_9
 have k8_10 := kt hg8 10 k7_10
 have k8_38 := kt hg8 38 (hB8.is 6)
 refine wp_cond_false ((fr_eval rfl).trans k8_38) ?_
 refine wp_skip ?_
 refine hK11 _ _ ?_
 refine wp_seq_k fun K14 hK14 => ?_
 refine wp_seq_k fun K15 hK15 => ?_
 refine region_dk 7 [(39, 0), (40, 1), (41, 2), (42, 3), (43, 4), (44, 5), (45, 6)] [[], [0], [0, 1], [0, 1, 2], [0, 1, 2, 3], [0, 1, 2, 3, 4], [0, 1, 2, 3, 4, 5]] (rel [is (.int .i64 x),
   is (.bool false),
   is (.bool false),
   gd (false) true (fun _ _ _ => True),
   gd (false) true (fun _ _ _ => True),
   gd (false) true (fun _ _ _ => True),
   is (.bool false)])
  ⟨is_k, is_k, is_k, gdt_k, gdt_k, gdt_k, is_k, trivial⟩
  ⟨fun f s W j l m p q i => opv rfl rfl (by simp [go_sem, i.e 10 k8_10]) rfl,
  fun f s W j l m p q i => opv rfl rfl (by simp [go_sem, i.e 39 (l 0 rfl), hn0]) rfl,
  fun f s W j l m p q i => opv rfl rfl (by simp [go_sem, i.e 40 (l 1 rfl)]) rfl,
  fun f s W j l m p q i => gno (i.says (d := 41) rfl rfl (l 2 rfl)),
  fun f s W j l m p q i => gno (i.says (d := 41) rfl rfl (l 2 rfl)),
  fun f s W j l m p q i => gno (i.says (d := 41) rfl rfl (l 2 rfl)),
  fun f s W j l m p q i => opk (c := false) rfl rfl (fun _ => by simp [go_sem, i.e 41 (l 2 rfl)]) (fun h => absurd h (by decide)), trivial⟩ ?_
 intro f9 s9 W9 hB9 g9 hg9
 have fB9 := hB9.f fB8
 have z9 := hB9.below.size
 have b9_0 := hB9.b b8_0
 have b9_1 := hB9.b b8_1
 have b9_2 := hB9.b b8_2
 have q50' := (q44'.bw hB9)
 have q51' := (hB9.lt q45')
 have q52' := (q46'.bw hB9)
 have q53' := (hB9.lt q47')
 have q54' := (q48'.bw hB9)
 have q55' := (hB9.lt q49')
 refine hK15 _ _ ?_
 have k9_2 := kt hg9 2 k8_2
 have k9_3 := kt hg9 3 k8_3
 have k9_4 := kt hg9 4 k8_4
 have k9_6 := kt hg9 6 k8_6
 have k9_8 := kt hg9 8 k8_8
 have k9_9 := kt hg9 9 k8_9
 have k9_10 := kt hg9 10 k8_10
 have k9_45 := kt hg9 45 (hB9.is 6)
 refine wp_cond_false ((fr_eval rfl).trans k9_45) ?_
 refine wp_skip ?_
 refine hK14 _ _ ?_
 refine wp_seq_k fun K17 hK17 => ?_
 refine wp_seq_k fun K18 hK18 => ?_
 refine region_dk 2 [(46, 0), (47, 1)] [[], [0]] (rel [is (.int .i64 x),
   is (.bool true)])
  ⟨is_k, is_k, trivial⟩
  ⟨fun f s W j l m p q i => opv rfl rfl (by simp [go_sem, i.e 10 k9_10]) rfl,
  fun f s W j l m p q i => opv rfl rfl (by simp [go_sem, i.e 46 (l 0 rfl), hn]) rfl, trivial⟩ ?_
 intro f10 s10 W10 hB10 g10 hg10
 have fB10 := hB10.f fB9
 have z10 := hB10.below.size
 have b10_0 := hB10.b b9_0
 have b10_1 := hB10.b b9_1
 have b10_2 := hB10.b b9_2
 have q56' := (q50'.bw hB10)
 have q57' := (hB10.lt q51')
 have q58' := (q52'.bw hB10)
 have q59' := (hB10.lt q53')
 have q60' := (q54'.bw hB10)
 have q61' := (hB10.lt q55')
 refine hK18 _ _ ?_
 have k10_2 := kt hg10 2 k9_2
 have k10_3 := kt hg10 3 k9_3
 have k10_4 := kt hg10 4 k9_4
 have k10_6 := kt hg10 6 k9_6
 have k10_8 := kt hg10 8 k9_8
 have k10_9 := kt hg10 9 k9_9
 have k10_10 := kt hg10 10 k9_10
 have k10_47 := kt hg10 47 (hB10.is 1)
 refine wp_cond_true ((fr_eval rfl).trans k10_47) ?_
 refine wp_seq_k fun K20 hK20 => ?_
 refine region_dk 12 [(48, 0), (49, 1), (50, 2), (51, 3), (52, 4), (53, 5), (54, 6), (55, 7), (56, 8), (57, 9), (58, 10), (6, 11)] [[], [], [0, 1], [0, 1, 2], [0, 1, 2, 3], [0, 1, 2, 3, 4], [0, 1, 2, 3, 4, 5], [0, 1, 2, 3, 4, 5, 6], [0, 1, 2, 3, 4, 5, 6, 7], [0, 1, 2, 3, 4, 5, 6, 7, 8], [0, 1, 2, 3, 4, 5, 6, 7, 8, 9], [0, 1, 2, 3, 4, 5, 6, 7, 8, 9, 10]] (rel [is (.int .i64 x),
   is (.int .i64 x),
   is (.bool true),
   is (.bool true),
   gd (true) true (is (.slice (a30') (0) (c31'))),
   gd (true) true (is (.int .i64 0)),
   gd (true) true (is (.bool true)),
   is (.bool true),
   is (.bool true),
   gd (true) true (is (.bool true)),
   is (.bool true),
   is (.bool true)])
  ⟨is_k, is_k, is_k, is_k, gd_k (is_k), gd_k (is_k), gd_k (is_k), is_k, is_k, gd_k (is_k), is_k, is_k, trivial⟩
  ⟨fun f s W j l m p q i => opv rfl rfl (by simp [go_sem, i.e 9 k10_9]) rfl,
  fun f s W j l m p q i => opv rfl rfl (by simp [go_sem, i.e 10 k10_10]) rfl,
  fun f s W j l m p q i => opv rfl rfl (by simp [go_sem, i.e 48 (l 0 rfl), i.e 49 (l 1 rfl)]) rfl,
  fun f s W j l m p q i => opv rfl rfl (by simp [go_sem, i.e 50 (l 2 rfl)]) rfl,
  fun f s W j l m p q i => gdo rfl rfl (i.says (d := 51) rfl rfl (l 3 rfl)) fun hgd0 => gv (by simp [go_sem, i.e 8 k10_8]) rfl,
  fun f s W j l m p q i => gdo rfl rfl (i.says (d := 51) rfl rfl (l 3 rfl)) fun hgd0 => gv (by simp [go_sem, i.e 52 ((l 4 rfl).1 hgd0)]) rfl,
  fun f s W j l m p q i => gdo rfl rfl (i.says (d := 51) rfl rfl (l 3 rfl)) fun hgd0 => gv (by simp [go_sem, i.e 53 ((l 5 rfl).1 hgd0)]) rfl,
  fun f s W j l m p q i => opk (c := true) rfl rfl (fun h => absurd h (by decide)) (fun _ => by simp [go_sem, i.e 51 (l 3 rfl), i.e 54 ((l 6 rfl).1 rfl)]),
  fun f s W j l m p q i => opv rfl rfl (by simp [go_sem, i.e 55 (l 7 rfl)]) rfl,
  fun f s W j l m p q i => gdo rfl rfl (i.says (d := 56) rfl rfl (l 8 rfl)) fun hgd0 => gc (by simp [go_sem]) (known_any W),
  fun f s W j l m p q i => opk (c := true) rfl rfl (fun h => absurd h (by decide)) (fun _ => by simp [go_sem, i.e 56 (l 8 rfl), i.e 57 ((l 9 rfl).1 rfl)]),
  fun f s W j l m p q i => opv rfl rfl (by simp [go_sem, i.e 58 (l 10 rfl)]) rfl, trivial⟩ ?_
 intro f11 s11 W11 hB11 g11 hg11
 have fB11 := hB11.f fB10
 have z11 := hB11.below.size
 have b11_0 := hB11.b b10_0
 have b11_1 := hB11.b b10_1
 have b11_2 := hB11.b b10_2
 have q62' := (q56'.bw hB11)
 have q63' := (hB11.lt q57')
 have q64' := (q58'.bw hB11)
 have q65' := (hB11.lt q59')
 have q66' := (q60'.bw hB11)
 have q67' := (hB11.lt q61')
 refine hK20 _ _ ?_
 have k11_2 := kt hg11 2 k10_2
 have k11_3 := kt hg11 3 k10_3
 have k11_4 := kt hg11 4 k10_4
 have k11_8 := kt hg11 8 k10_8
 have k11_9 := kt hg11 9 k10_9
 have k11_6 := kt hg11 6 (hB11.is 11)
 refine wp_ret ?_
 refine then_ret ?_
 refine leave_one (N := 94) (v := .bool true) (.inr rfl) Tryz.results3 rfl k11_6 ?_
 exact ⟨rfl, fB11⟩
set_option maxRecDepth 100000 in
set_option maxHeartbeats 2000000 in
theorem inners_bad2 (a1 a2 a3 : Option Addr) (c1 c2 c3 : Nat) (b : Bl) (lo hi off : Int) (w : World) (h1 : Ii w a1 b.panels.length c1 b.panels) (h2 : Ii w a2 b.top.length c2 b.top) (h3 : Ii w a3 b.bottom.length c3 b.bottom) (hof : -9223372036854775808 ≤ off ∧ off ≤ 9223372036854775807) (hl : largeB b = false) (hck : checkErr b = 0) (hsp : isSpan (lo, hi) 1 10000 = false) :
  Calls Tryz.prog 3 #[.agg #[.int .i64 b.tab, .slice (a1) (b.panels.length) (c1), .int .i64 b.height, .slice (a2) (b.top.length) (c2), .slice (a3) (b.bottom.length) (c3), .int .i64 b.slot, .bool b.isOpen], .agg #[.int .i64 lo, .int .i64 hi], .int .i64 off] w (fun e w' => e = .returned (.bool true) ∧ Below w.heap.size w w') := by
 have hm1 := h1.len_le
 have hm2 := h2.len_le
 have hm3 := h3.len_le
 obtain ⟨m1, m2, m3⟩ := large_false hl
 have n1 : b.panels.length ≤ 1000 := by omega
 have n2 : b.top.length ≤ 1000 := by omega
 have n3 : b.bottom.length ≤ 1000 := by omega
 refine calls_fr Tryz.func3 Tryz.ntmps3 rfl rfl fun g hg => ?_
 have k0 : g 0 = .agg #[.int .i64 b.tab, .slice (a1) (b.panels.length) (c1), .int .i64 b.height, .slice (a2) (b.top.length) (c2), .slice (a3) (b.bottom.length) (c3), .int .i64 b.slot, .bool b.isOpen] := hg 0
 have k1 : g 1 = .agg #[.int .i64 lo, .int .i64 hi] := hg 1
 have k2 : g 2 = .int .i64 off := hg 2
 clear hg
 have fB0 : Below w.heap.size w w := Below.refl _ _
 refine wp_seq_k fun K1 hK1 => ?_
 refine region_dk 3 [(3, 0), (4, 1), (6, 2)] [[], [], []] (rel [bx 0 #[.int .i64 b.tab, .slice (a1) (b.panels.length) (c1), .int .i64 b.height, .slice (a2) (b.top.length) (c2), .slice (a3) (b.bottom.length) (c3), .int .i64 b.slot, .bool b.isOpen] 24,
   bx 1 #[.int .i64 lo, .int .i64 hi] 26,
   is (.bool false)])
  ⟨bx_k, bx_k, is_k, trivial⟩
  ⟨fun f s W j l m p q i => opb rfl rfl (by simp [go_sem, i.e 0 k0]),
  fun f s W j l m p q i => opb rfl rfl (by simp [go_sem, i.e 1 k1]),
  fun f s W j l m p q i => opv rfl rfl (by simp [go_sem]) rfl, trivial⟩ ?_
 intro f1 s1 W1 hB1 g1 hg1
 have fB1 := hB1.f fB0
 have z1 := hB1.below.size
 obtain ⟨r1_0, br1_0⟩ := hB1.is 0
 have lr1_0 := hB1.lr 0 br1_0
 obtain ⟨r1_1, br1_1⟩ := hB1.is 1
 have lr1_1 := hB1.lr 1 br1_1
 have ne1_0_1 := hB1.nb 0 1
 refine hK1 _ _ ?_
 have k1_2 := kt hg1 2 k2
 have k1_3 := kt hg1 3 r1_0
 have k1_4 := kt hg1 4 r1_1
 have k1_6 := kt hg1 6 (hB1.is 2)
 refine wp_seq_k fun K2 hK2 => ?_
 refine wp_seq_k fun K3 hK3 => ?_
 refine region_dk 2 [(14, 0), (15, 1)] [[], [0]] (rel [is (.agg #[.int .i64 b.tab, .slice (a1) (b.panels.length) (c1), .int .i64 b.height, .slice (a2) (b.top.length) (c2), .slice (a3) (b.bottom.length) (c3), .int .i64 b.slot, .bool b.isOpen]),
   is (.bool false)])
  ⟨is_k, is_k, trivial⟩
  ⟨fun f s W j l m p q i => opv rfl rfl (by simp [go_sem, i.e 3 k1_3, cb br1_0 j 0, cb br1_0 j 1, cb br1_0 j 2, cb br1_0 j 3, cb br1_0 j 4, cb br1_0 j 5, cb br1_0 j 6]) rfl,
  fun f s W j l m p q i => by have r := below_trans fB1 j; exact opDo_call rfl rfl (by simp [go_sem, i.e 14 (l 0 rfl)]) (large_any a1 a2 a3 c1 c2 c3 b W (h1.below r (Nat.le_refl _)) (h2.below r (Nat.le_refl _)) (h3.below r (Nat.le_refl _))) ((fun e W' h => by have h1 := h.1; rw [hl] at h1; exact ⟨_, h1, h.2, rfl⟩)), trivial⟩ ?_
 intro f2 s2 W2 hB2 g2 hg2
 have fB2 := hB2.f fB1
 have z2 := hB2.below.size
 have b2_0 := hB2.b br1_0
 have b2_1 := hB2.b br1_1
 refine hK3 _ _ ?_
 have k2_2 := kt hg2 2 k1_2
 have k2_3 := kt hg2 3 k1_3
 have k2_4 := kt hg2 4 k1_4
 have k2_6 := kt hg2 6 k1_6
 have k2_15 := kt hg2 15 (hB2.is 1)
 refine wp_cond_false ((fr_eval rfl).trans k2_15) ?_
 refine wp_skip ?_
 refine hK2 _ _ ?_
 refine wp_seq_k fun K5 hK5 => ?_
 refine region_dk 3 [(17, 0), (18, 1), (7, 2)] [[], [0], [], [0, 1, 2]] (rel [is (.agg #[.int .i64 b.tab, .slice (a1) (b.panels.length) (c1), .int .i64 b.height, .slice (a2) (b.top.length) (c2), .slice (a3) (b.bottom.length) (c3), .int .i64 b.slot, .bool b.isOpen]),
   fun v s W => NwBlk (s 1) (b) v W,
   bx 2 #[.int .i64 0, .slice (none) (0) (0), .int .i64 0, .slice (none) (0) (0), .slice (none) (0) (0), .int .i64 0, .bool false] 24])
  ⟨is_k, ⟨fun v k W W' hb h => h.below hb, fun v s s' W e h => by have h' : NwBlk (s 1) (b) v W := h; show NwBlk (s' 1) (b) v W; rw [← e 1 (by simp)]; exact h'⟩, bx_k, trivial⟩
  ⟨fun f s W j l m p q i => opv rfl rfl (by simp [go_sem, i.e 3 k2_3, cb b2_0 j 0, cb b2_0 j 1, cb b2_0 j 2, cb b2_0 j 3, cb b2_0 j 4, cb b2_0 j 5, cb b2_0 j 6]) rfl,
  fun f s W j l m p q i => by have r := below_trans fB2 j; exact opDo_call rfl rfl (by simp [go_sem, i.e 17 (l 0 rfl)]) (own_any a1 a2 a3 c1 c2 c3 b W (h1.below r (Nat.le_refl _)) (h2.below r (Nat.le_refl _)) (h3.below r (Nat.le_refl _)) n1 n2 n3) (fun e W' h => by obtain ⟨v, e1, h1, h2⟩ := h; exact ⟨v, e1, h2, (show NwBlk (upd s 1 W.heap.size 1) (b) v W' from by rw [upd_at]; exact h1)⟩),
  fun f s W j l m p q i => opb rfl rfl (by simp [go_sem]), trivial⟩ ?_
 intro f3 s3 W3 hB3 g3 hg3
 have fB3 := hB3.f fB2
 have z3 := hB3.below.size
 have b3_0 := hB3.b b2_0
 have b3_1 := hB3.b b2_1
 have la3_1_1 := hB3.from' 1 (by decide)
 obtain ⟨g68', c71', g69', c72', g70', c73', r3_1, ⟨q74', q76', q75'⟩, ⟨q77', q79', q78'⟩, ⟨q80', q82', q81'⟩⟩ := hB3.is 1
 obtain ⟨r3_2, br3_2⟩ := hB3.is 2
 have lr3_2 := hB3.lr 2 br3_2
 have la3_1 := hB3.from' 1 (by decide)
 have of3_1_2_0 := hB3.off 1 2 (by decide) (by decide) (by decide) q76' (fun W h => (NwBlk.lt h r3_1).1) (fun _ _ _ h => lt_of_blk h.2)
 have of3_1_2_1 := hB3.off 1 2 (by decide) (by decide) (by decide) q79' (fun W h => (NwBlk.lt h r3_1).2.1) (fun _ _ _ h => lt_of_blk h.2)
 have of3_1_2_2 := hB3.off 1 2 (by decide) (by decide) (by decide) q82' (fun W h => (NwBlk.lt h r3_1).2.2) (fun _ _ _ h => lt_of_blk h.2)
 have k3_2 := kt hg3 2 k2_2
 have k3_3 := kt hg3 3 k2_3
 have k3_4 := kt hg3 4 k2_4
 have k3_6 := kt hg3 6 k2_6
 have k3_18 := kt hg3 18 r3_1
 have k3_7 := kt hg3 7 r3_2
 obtain ⟨W4, hW4⟩ : ∃ W', W' = W3.setRow (s3 2) #[.int .i64 b.tab, .slice (some ⟨g68', 0, none⟩) (b.panels.length) (c71'), .int .i64 b.height, .slice (some ⟨g69', 0, none⟩) (b.top.length) (c72'), .slice (some ⟨g70', 0, none⟩) (b.bottom.length) (c73'), .int .i64 b.slot, .bool b.isOpen] := ⟨_, rfl⟩
 refine tail_skip (o := _) rfl ⟨rfl, rfl⟩ (run_seg hW4 (fr_ev k3_7) (fr_ev k3_18) br3_2 rfl rfl rfl rfl) ?_
 obtain ⟨fB4, nb4, ot4, z4⟩ := seg_facts hW4 fB3 br3_2 (by omega)
 clear hW4
 have b4_0 := ot4 _ _ (by omega) b3_0
 have b4_1 := ot4 _ _ (by omega) b3_1
 have q83' := (q74'.other ot4 q75' (by omega) z4)
 have q84' := Nat.lt_of_lt_of_le q75' z4
 have q85' := (q77'.other ot4 q78' (by omega) z4)
 have q86' := Nat.lt_of_lt_of_le q78' z4
 have q87' := (q80'.other ot4 q81' (by omega) z4)
 have q88' := Nat.lt_of_lt_of_le q81' z4
 refine wpOps_end ?_
 refine hK5 _ _ ?_
 refine wp_seq_k fun K6 hK6 => ?_
 refine region_dk 9 [(20, 0), (21, 1), (22, 2), (23, 3), (19, 4), (24, 5), (25, 6), (8, 7), (9, 8)] [[], [], [], [0, 1, 2], [0, 1, 2, 3], [0, 1, 2, 3, 4], [0, 1, 2, 3, 4], [0, 1, 2, 3, 4, 5], [0, 1, 2, 3, 4, 5, 6, 7]] (rel [is (.agg #[.int .i64 b.tab, .slice (some ⟨g68', 0, none⟩) (b.panels.length) (c71'), .int .i64 b.height, .slice (some ⟨g69', 0, none⟩) (b.top.length) (c72'), .slice (some ⟨g70', 0, none⟩) (b.bottom.length) (c73'), .int .i64 b.slot, .bool b.isOpen]),
   is (.agg #[.int .i64 lo, .int .i64 hi]),
   is (.int .i64 off),
   ab fun v W => ∃ x0, v = .tuple #[x0, .int .i64 3] ∧ IsNil x0 W,
   ab fun v W => ∃ x0, v = .tuple #[x0, .int .i64 3] ∧ IsNil x0 W,
   ab fun v W => IsNil v W,
   is (.int .i64 3),
   ab fun v W => IsNil v W,
   is (.int .i64 3)])
  ⟨is_k, is_k, is_k, ab_k fun v W W' hb ⟨x0, e, h0⟩ => ⟨x0, e, h0⟩, ab_k fun v W W' hb ⟨x0, e, h0⟩ => ⟨x0, e, h0⟩, ab_k fun v W W' hb h => h, is_k, ab_k fun v W W' hb h => h, is_k, trivial⟩
  ⟨fun f s W j l m p q i => opv rfl rfl (by simp [go_sem, i.e 7 k3_7, cb nb4 j 0, cb nb4 j 1, cb nb4 j 2, cb nb4 j 3, cb nb4 j 4, cb nb4 j 5, cb nb4 j 6]) rfl,
  fun f s W j l m p q i => opv rfl rfl (by simp [go_sem, i.e 4 k3_4, cb b4_1 j 0, cb b4_1 j 1]) rfl,
  fun f s W j l m p q i => opv rfl rfl (by simp [go_sem, i.e 2 k3_2]) rfl,
  fun f s W j l m p q i => opDo_call (args := #[.agg #[.int .i64 b.tab, .slice (some ⟨g68', 0, none⟩) (b.panels.length) (c71'), .int .i64 b.height, .slice (some ⟨g69', 0, none⟩) (b.top.length) (c72'), .slice (some ⟨g70', 0, none⟩) (b.bottom.length) (c73'), .int .i64 b.slot, .bool b.isOpen], .agg #[.int .i64 lo, .int .i64 hi], .int .i64 off]) rfl rfl (by simp [go_sem, i.e 20 (l 0 rfl), i.e 21 (l 1 rfl), i.e 22 (l 2 rfl)]) (inner_any _ b lo hi off W ⟨_, _, _, _, _, _, _, _, _, rfl, ((q83'.below j (Nat.le_refl _))), ((q85'.below j (Nat.le_refl _))), ((q87'.below j (Nat.le_refl _)))⟩ hof.1 hof.2) ((fun e W' h => by obtain ⟨a, n, c, e1, h1, h2⟩ := h; rw [(inner_e2 hck hsp)] at e1; rw [if_neg (by rw [(inner_e2 hck hsp)]; exact (by decide))] at h1; exact ⟨_, e1, h2, _, rfl, isNilP_of h1 rfl⟩)),
  fun f s W j l m p q i => opv (v := (f 3)) rfl rfl (by simp [go_sem, (i.at' 23 rfl : q.tmps[23]?.getD undef = f 3)] <;> rfl) (l 3 rfl),
  fun f s W j l m p q i => by obtain ⟨x4_0, d4, p4_0⟩ := (l 4 rfl); exact opv (v := x4_0) rfl rfl (by simp [go_sem, i.e 19 d4]) p4_0,
  fun f s W j l m p q i => by obtain ⟨x4_0, d4, p4_0⟩ := (l 4 rfl); exact opv rfl rfl (by simp [go_sem, i.e 19 d4]) rfl,
  fun f s W j l m p q i => opv (v := (f 5)) rfl rfl (by simp [go_sem, (i.at' 24 rfl : q.tmps[24]?.getD undef = f 5)] <;> rfl) (l 5 rfl),
  fun f s W j l m p q i => opv rfl rfl (by simp [go_sem, i.e 25 (l 6 rfl)]) rfl, trivial⟩ ?_
 intro f5 s5 W5 hB5 g5 hg5
 have fB5 := hB5.f fB4
 have z5 := hB5.below.size
 have b5_0 := hB5.b b4_0
 have b5_1 := hB5.b b4_1
 have b5_2 := hB5.b nb4
 have q91' := (q83'.bw hB5)
 have q92' := (hB5.lt q84')
 have q93' := (q85'.bw hB5)
 have q94' := (hB5.lt q86')
 have q95' := (q87'.bw hB5)
 have q96' := (hB5.lt q88')
 obtain ⟨a97', c98', r5_7⟩ := hB5.is 7
 refine hK6 _ _ ?_
 have k5_2 := kt hg5 2 k3_2
 have k5_3 := kt hg5 3 k3_3
 have k5_4 := kt hg5 4 k3_4
 have k5_6 := kt hg5 6 k3_6
 have k5_7 := kt hg5 7 k3_7
 have k5_8 := kt hg5 8 r5_7
 have k5_9 := kt hg5 9 (hB5.is 8)
 refine wp_seq_k fun K7 hK7 => ?_
 refine wp_seq_k fun K8 hK8 => ?_
 refine region_dk 4 [(26, 0), (27, 1), (28, 2), (29, 3)] [[], [], [0, 1], [0, 1, 2]] (rel [is (.agg #[.int .i64 b.tab, .slice (some ⟨g68', 0, none⟩) (b.panels.length) (c71'), .int .i64 b.height, .slice (some ⟨g69', 0, none⟩) (b.top.length) (c72'), .slice (some ⟨g70', 0, none⟩) (b.bottom.length) (c73'), .int .i64 b.slot, .bool b.isOpen]),
   is (.agg #[.int .i64 b.tab, .slice (a1) (b.panels.length) (c1), .int .i64 b.height, .slice (a2) (b.top.length) (c2), .slice (a3) (b.bottom.length) (c3), .int .i64 b.slot, .bool b.isOpen]),
   is (.bool true),
   is (.bool false)])
  ⟨is_k, is_k, is_k, is_k, trivial⟩
  ⟨fun f s W j l m p q i => opv rfl rfl (by simp [go_sem, i.e 7 k5_7, cb b5_2 j 0, cb b5_2 j 1, cb b5_2 j 2, cb b5_2 j 3, cb b5_2 j 4, cb b5_2 j 5, cb b5_2 j 6]) rfl,
  fun f s W j l m p q i => opv rfl rfl (by simp [go_sem, i.e 3 k5_3, cb b5_0 j 0, cb b5_0 j 1, cb b5_0 j 2, cb b5_0 j 3, cb b5_0 j 4, cb b5_0 j 5, cb b5_0 j 6]) rfl,
  fun f s W j l m p q i => by have r := below_trans fB5 j; exact opDo_call (args := #[.agg #[.int .i64 b.tab, .slice (some ⟨g68', 0, none⟩) (b.panels.length) (c71'), .int .i64 b.height, .slice (some ⟨g69', 0, none⟩) (b.top.length) (c72'), .slice (some ⟨g70', 0, none⟩) (b.bottom.length) (c73'), .int .i64 b.slot, .bool b.isOpen], .agg #[.int .i64 b.tab, .slice (a1) (b.panels.length) (c1), .int .i64 b.height, .slice (a2) (b.top.length) (c2), .slice (a3) (b.bottom.length) (c3), .int .i64 b.slot, .bool b.isOpen]]) rfl rfl (by simp [go_sem, i.e 26 (l 0 rfl), i.e 27 (l 1 rfl)]) (same_blk (b := b) (d := b) ⟨_, _, _, _, _, _, _, _, _, rfl, ((q91'.below j (Nat.le_refl _))), ((q93'.below j (Nat.le_refl _))), ((q95'.below j (Nat.le_refl _)))⟩ ⟨_, _, _, _, _, _, _, _, _, rfl, (h1.below r (Nat.le_refl _)), (h2.below r (Nat.le_refl _)), (h3.below r (Nat.le_refl _))⟩) ((fun e W' h => by have h1 := h.1; rw [sameB_self] at h1; exact ⟨_, h1, h.2, rfl⟩)),
  fun f s W j l m p q i => opv rfl rfl (by simp [go_sem, i.e 28 (l 2 rfl)]) rfl, trivial⟩ ?_
 intro f6 s6 W6 hB6 g6 hg6
 have fB6 := hB6.f fB5
 have z6 := hB6.below.size
 have b6_0 := hB6.b b5_0
 have b6_1 := hB6.b b5_1
 have b6_2 := hB6.b b5_2
 have q99' := (q91'.bw hB6)
 have q100' := (hB6.lt q92')
 have q101' := (q93'.bw hB6)
 have q102' := (hB6.lt q94')
 have q103' := (q95'.bw hB6)
 have q104' := (hB6.lt q96')
 refine hK8 _ _ ?_
 have k6_2 := kt hg6 2 k5_2
 have k6_3 := kt hg6 3 k5_3
 have k6_4 := kt hg6 4 k5_4
 have k6_6 := kt hg6 6 k5_6
 have k6_8 := kt hg6 8 k5_8
 have k6_9 := kt hg6 9 k5_9
 have k6_29 := kt hg6 29 (hB6.is 3)
 refine wp_cond_false ((fr_eval rfl).trans k6_29) ?_
 refine wp_skip ?_
 refine hK7 _ _ ?_
 refine wp_seq_k fun K10 hK10 => ?_
 refine region_dk 3 [(30, 0), (31, 1), (10, 2)] [[], [0], [0, 1]] (rel [is (.agg #[.int .i64 b.tab, .slice (a1) (b.panels.length) (c1), .int .i64 b.height, .slice (a2) (b.top.length) (c2), .slice (a3) (b.bottom.length) (c3), .int .i64 b.slot, .bool b.isOpen]),
   is (.int .i64 0),
   is (.int .i64 0)])
  ⟨is_k, is_k, is_k, trivial⟩
  ⟨fun f s W j l m p q i => opv rfl rfl (by simp [go_sem, i.e 3 k6_3, cb b6_0 j 0, cb b6_0 j 1, cb b6_0 j 2, cb b6_0 j 3, cb b6_0 j 4, cb b6_0 j 5, cb b6_0 j 6]) rfl,
  fun f s W j l m p q i => by have r := below_trans fB6 j; exact opDo_call (args := #[.agg #[.int .i64 b.tab, .slice (a1) (b.panels.length) (c1), .int .i64 b.height, .slice (a2) (b.top.length) (c2), .slice (a3) (b.bottom.length) (c3), .int .i64 b.slot, .bool b.isOpen]]) rfl rfl (by simp [go_sem, i.e 30 (l 0 rfl)]) (refCheck_blk ⟨_, _, _, _, _, _, _, _, _, rfl, (h1.below r (Nat.le_refl _)), (h2.below r (Nat.le_refl _)), (h3.below r (Nat.le_refl _))⟩) ((fun e W' h => by have h1 := h.1; rw [refCheck_eq, hck] at h1; exact ⟨_, h1, h.2, rfl⟩)),
  fun f s W j l m p q i => opv rfl rfl (by simp [go_sem, i.e 31 (l 1 rfl)]) rfl, trivial⟩ ?_
 intro f7 s7 W7 hB7 g7 hg7
 have fB7 := hB7.f fB6
 have z7 := hB7.below.size
 have b7_0 := hB7.b b6_0
 have b7_1 := hB7.b b6_1
 have b7_2 := hB7.b b6_2
 have q105' := (q99'.bw hB7)
 have q106' := (hB7.lt q100')
 have q107' := (q101'.bw hB7)
 have q108' := (hB7.lt q102')
 have q109' := (q103'.bw hB7)
 have q110' := (hB7.lt q104')
 refine hK10 _ _ ?_
 have k7_2 := kt hg7 2 k6_2
 have k7_3 := kt hg7 3 k6_3
 have k7_4 := kt hg7 4 k6_4
 have k7_6 := kt hg7 6 k6_6
 have k7_8 := kt hg7 8 k6_8
 have k7_9 := kt hg7 9 k6_9
 have k7_10 := kt hg7 10 (hB7.is 2)
 refine wp_seq_k fun K11 hK11 => ?_
 refine wp_seq_k fun K12 hK12 => ?_
 refine region_dk 7 [(32, 0), (33, 1), (34, 2), (35, 3), (36, 4), (37, 5), (38, 6)] [[], [0], [0, 1], [0, 1, 2], [0, 1, 2, 3], [0, 1, 2, 3, 4], [0, 1, 2, 3, 4, 5]] (rel [is (.int .i64 0),
   is (.bool true),
   is (.bool true),
   gd (true) true (is (.agg #[.int .i64 lo, .int .i64 hi])),
   gd (true) true (is (.bool false)),
   gd (true) true (is (.bool true)),
   is (.bool true)])
  ⟨is_k, is_k, is_k, gd_k (is_k), gd_k (is_k), gd_k (is_k), is_k, trivial⟩
  ⟨fun f s W j l m p q i => opv rfl rfl (by simp [go_sem, i.e 10 k7_10]) rfl,
  fun f s W j l m p q i => opv rfl rfl (by simp [go_sem, i.e 32 (l 0 rfl)]) rfl,
  fun f s W j l m p q i => opv rfl rfl (by simp [go_sem, i.e 33 (l 1 rfl)]) rfl,
  fun f s W j l m p q i => gdo rfl rfl (i.says (d := 34) rfl rfl (l 2 rfl)) fun hgd0 => gv (by simp [go_sem, i.e 4 k7_4, cb b7_1 j 0, cb b7_1 j 1]) rfl,
  fun f s W j l m p q i => gdo rfl rfl (i.says (d := 34) rfl rfl (l 2 rfl)) fun hgd0 => wp_called (by simp [go_sem, i.e 35 ((l 3 rfl).1 hgd0)]) (spanR_any lo hi 1 10000 W) ((fun e W' h => by have h1 := h.1; rw [spanR_eq, hsp] at h1; exact ⟨_, h1, h.2, rfl⟩)),
  fun f s W j l m p q i => gdo rfl rfl (i.says (d := 34) rfl rfl (l 2 rfl)) fun hgd0 => gv (by simp [go_sem, i.e 36 ((l 4 rfl).1 hgd0)]) rfl,
  fun f s W j l m p q i => opk (c := true) rfl rfl (fun h => absurd h (by decide)) (fun _ => by simp [go_sem, i.e 34 (l 2 rfl), i.e 37 ((l 5 rfl).1 rfl)]), trivial⟩ ?_
 intro f8 s8 W8 hB8 g8 hg8
 have fB8 := hB8.f fB7
 have z8 := hB8.below.size
 have b8_0 := hB8.b b7_0
 have b8_1 := hB8.b b7_1
 have b8_2 := hB8.b b7_2
 have q111' := (q105'.bw hB8)
 have q112' := (hB8.lt q106')
 have q113' := (q107'.bw hB8)
 have q114' := (hB8.lt q108')
 have q115' := (q109'.bw hB8)
 have q116' := (hB8.lt q110')
 refine hK12 _ _ ?_
 have k8_2 := kt hg8 2 k7_2
 have k8_3 := kt hg8 3 k7_3
 have k8_4 := kt hg8 4 k7_4
 have k8_6 := kt hg8 6 k7_6
 have k8_8 := kt hg8 8 k7_8
 have k8_9 := kt hg8 9 k7_9
 have k8_10 := kt hg8 10 k7_10
 have k8_38 := kt hg8 38 (hB8.is 6)
 refine wp_cond_true ((fr_eval rfl).trans k8_38) ?_
 refine region_dk 1 [(10, 0)] [[]] (rel [is (.int .i64 3)])
  ⟨is_k, trivial⟩
  ⟨fun f s W j l m p q i => opv rfl rfl (by simp [go_sem]) rfl, trivial⟩ ?_
 intro f9 s9 W9 hB9 g9 hg9
 have fB9 := hB9.f fB8
 have z9 := hB9.below.size
 have b9_0 := hB9.b b8_0
 have b9_1 := hB9.b b8_1
 have b9_2 := hB9.b b8_2
 have q117' := (q111'.bw hB9)
 have q118' := (hB9.lt q112')
 have q119' := (q113'.bw hB9)
 have q120' := (hB9.lt q114')
 have q121' := (q115'.bw hB9)
 have q122' := (hB9.lt q116')
 refine hK11 _ _ ?_
 have k9_2 := kt hg9 2 k8_2
 have k9_3 := kt hg9 3 k8_3
 have k9_4 := kt hg9 4 k8_4
 have k9_6 := kt hg9 6 k8_6
 have k9_8 := kt hg9 8 k8_8
 have k9_9 := kt hg9 9 k8_9
 have k9_10 := kt hg9 10 (hB9.is 0)
 refine wp_seq_k fun K14 hK14 => ?_
 refine wp_seq_k fun K15 hK15 => ?_
 refine region_dk 7 [(39, 0), (40, 1), (41, 2), (42, 3), (43, 4), (44, 5), (45, 6)] [[], [0], [0, 1], [0, 1, 2], [0, 1, 2, 3], [0, 1, 2, 3, 4], [0, 1, 2, 3, 4, 5]] (rel [is (.int .i64 3),
   is (.bool false),
   is (.bool false),
   gd (false) true (fun _ _ _ => True),
   gd (false) true (fun _ _ _ => True),
   gd (false) true (fun _ _ _ => True),
   is (.bool false)])
  ⟨is_k, is_k, is_k, gdt_k, gdt_k, gdt_k, is_k, trivial⟩
  ⟨fun f s W j l m p q i => opv rfl rfl (by simp [go_sem, i.e 10 k9_10]) rfl,
  fun f s W j l m p q i => opv rfl rfl (by simp [go_sem, i.e 39 (l 0 rfl)]) rfl,
  fun f s W j l m p q i => opv rfl rfl (by simp [go_sem, i.e 40 (l 1 rfl)]) rfl,
  fun f s W j l m p q i => gno (i.says (d := 41) rfl rfl (l 2 rfl)),
  fun f s W j l m p q i => gno (i.says (d := 41) rfl rfl (l 2 rfl)),
  fun f s W j l m p q i => gno (i.says (d := 41) rfl rfl (l 2 rfl)),
  fun f s W j l m p q i => opk (c := false) rfl rfl (fun _ => by simp [go_sem, i.e 41 (l 2 rfl)]) (fun h => absurd h (by decide)), trivial⟩ ?_
 intro f10 s10 W10 hB10 g10 hg10
 have fB10 := hB10.f fB9
 have z10 := hB10.below.size
 have b10_0 := hB10.b b9_0
 have b10_1 := hB10.b b9_1
 have b10_2 := hB10.b b9_2
 have q123' := (q117'.bw hB10)
 have q124' := (hB10.lt q118')
 have q125' := (q119'.bw hB10)
 have q126' := (hB10.lt q120')
 have q127' := (q121'.bw hB10)
 have q128' := (hB10.lt q122')
 refine hK15 _ _ ?_
 have k10_2 := kt hg10 2 k9_2
 have k10_3 := kt hg10 3 k9_3
 have k10_4 := kt hg10 4 k9_4
 have k10_6 := kt hg10 6 k9_6
 have k10_8 := kt hg10 8 k9_8
 have k10_9 := kt hg10 9 k9_9
 have k10_10 := kt hg10 10 k9_10
 have k10_45 := kt hg10 45 (hB10.is 6)
 refine wp_cond_false ((fr_eval rfl).trans k10_45) ?_
 refine wp_skip ?_
 refine hK14 _ _ ?_
 refine wp_seq_k fun K17 hK17 => ?_
 refine wp_seq_k fun K18 hK18 => ?_
 refine region_dk 2 [(46, 0), (47, 1)] [[], [0]] (rel [is (.int .i64 3),
   is (.bool true)])
  ⟨is_k, is_k, trivial⟩
  ⟨fun f s W j l m p q i => opv rfl rfl (by simp [go_sem, i.e 10 k10_10]) rfl,
  fun f s W j l m p q i => opv rfl rfl (by simp [go_sem, i.e 46 (l 0 rfl)]) rfl, trivial⟩ ?_
 intro f11 s11 W11 hB11 g11 hg11
 have fB11 := hB11.f fB10
 have z11 := hB11.below.size
 have b11_0 := hB11.b b10_0
 have b11_1 := hB11.b b10_1
 have b11_2 := hB11.b b10_2
 have q129' := (q123'.bw hB11)
 have q130' := (hB11.lt q124')
 have q131' := (q125'.bw hB11)
 have q132' := (hB11.lt q126')
 have q133' := (q127'.bw hB11)
 have q134' := (hB11.lt q128')
 refine hK18 _ _ ?_
 have k11_2 := kt hg11 2 k10_2
 have k11_3 := kt hg11 3 k10_3
 have k11_4 := kt hg11 4 k10_4
 have k11_6 := kt hg11 6 k10_6
 have k11_8 := kt hg11 8 k10_8
 have k11_9 := kt hg11 9 k10_9
 have k11_10 := kt hg11 10 k10_10
 have k11_47 := kt hg11 47 (hB11.is 1)
 refine wp_cond_true ((fr_eval rfl).trans k11_47) ?_
 refine wp_seq_k fun K20 hK20 => ?_
 refine region_dk 12 [(48, 0), (49, 1), (50, 2), (51, 3), (52, 4), (53, 5), (54, 6), (55, 7), (56, 8), (57, 9), (58, 10), (6, 11)] [[], [], [0, 1], [0, 1, 2], [0, 1, 2, 3], [0, 1, 2, 3, 4], [0, 1, 2, 3, 4, 5], [0, 1, 2, 3, 4, 5, 6], [0, 1, 2, 3, 4, 5, 6, 7], [0, 1, 2, 3, 4, 5, 6, 7, 8], [0, 1, 2, 3, 4, 5, 6, 7, 8, 9], [0, 1, 2, 3, 4, 5, 6, 7, 8, 9, 10]] (rel [is (.int .i64 3),
   is (.int .i64 3),
   is (.bool true),
   is (.bool true),
   gd (true) true (is (.slice (a97') (0) (c98'))),
   gd (true) true (is (.int .i64 0)),
   gd (true) true (is (.bool true)),
   is (.bool true),
   is (.bool true),
   gd (true) true (is (.bool true)),
   is (.bool true),
   is (.bool true)])
  ⟨is_k, is_k, is_k, is_k, gd_k (is_k), gd_k (is_k), gd_k (is_k), is_k, is_k, gd_k (is_k), is_k, is_k, trivial⟩
  ⟨fun f s W j l m p q i => opv rfl rfl (by simp [go_sem, i.e 9 k11_9]) rfl,
  fun f s W j l m p q i => opv rfl rfl (by simp [go_sem, i.e 10 k11_10]) rfl,
  fun f s W j l m p q i => opv rfl rfl (by simp [go_sem, i.e 48 (l 0 rfl), i.e 49 (l 1 rfl)]) rfl,
  fun f s W j l m p q i => opv rfl rfl (by simp [go_sem, i.e 50 (l 2 rfl)]) rfl,
  fun f s W j l m p q i => gdo rfl rfl (i.says (d := 51) rfl rfl (l 3 rfl)) fun hgd0 => gv (by simp [go_sem, i.e 8 k11_8]) rfl,
  fun f s W j l m p q i => gdo rfl rfl (i.says (d := 51) rfl rfl (l 3 rfl)) fun hgd0 => gv (by simp [go_sem, i.e 52 ((l 4 rfl).1 hgd0)]) rfl,
  fun f s W j l m p q i => gdo rfl rfl (i.says (d := 51) rfl rfl (l 3 rfl)) fun hgd0 => gv (by simp [go_sem, i.e 53 ((l 5 rfl).1 hgd0)]) rfl,
  fun f s W j l m p q i => opk (c := true) rfl rfl (fun h => absurd h (by decide)) (fun _ => by simp [go_sem, i.e 51 (l 3 rfl), i.e 54 ((l 6 rfl).1 rfl)]),
  fun f s W j l m p q i => opv rfl rfl (by simp [go_sem, i.e 55 (l 7 rfl)]) rfl,
  fun f s W j l m p q i => gdo rfl rfl (i.says (d := 56) rfl rfl (l 8 rfl)) fun hgd0 => gc (by simp [go_sem]) (known_any W),
  fun f s W j l m p q i => opk (c := true) rfl rfl (fun h => absurd h (by decide)) (fun _ => by simp [go_sem, i.e 56 (l 8 rfl), i.e 57 ((l 9 rfl).1 rfl)]),
  fun f s W j l m p q i => opv rfl rfl (by simp [go_sem, i.e 58 (l 10 rfl)]) rfl, trivial⟩ ?_
 intro f12 s12 W12 hB12 g12 hg12
 have fB12 := hB12.f fB11
 have z12 := hB12.below.size
 have b12_0 := hB12.b b11_0
 have b12_1 := hB12.b b11_1
 have b12_2 := hB12.b b11_2
 have q135' := (q129'.bw hB12)
 have q136' := (hB12.lt q130')
 have q137' := (q131'.bw hB12)
 have q138' := (hB12.lt q132')
 have q139' := (q133'.bw hB12)
 have q140' := (hB12.lt q134')
 refine hK20 _ _ ?_
 have k12_2 := kt hg12 2 k11_2
 have k12_3 := kt hg12 3 k11_3
 have k12_4 := kt hg12 4 k11_4
 have k12_8 := kt hg12 8 k11_8
 have k12_9 := kt hg12 9 k11_9
 have k12_6 := kt hg12 6 (hB12.is 11)
 refine wp_ret ?_
 refine then_ret ?_
 refine leave_one (N := 94) (v := .bool true) (.inr rfl) Tryz.results3 rfl k12_6 ?_
 exact ⟨rfl, fB12⟩
set_option maxRecDepth 100000 in
set_option maxHeartbeats 2000000 in
theorem inners_bad3 (a1 a2 a3 : Option Addr) (c1 c2 c3 : Nat) (b : Bl) (lo hi off : Int) (w : World) (h1 : Ii w a1 b.panels.length c1 b.panels) (h2 : Ii w a2 b.top.length c2 b.top) (h3 : Ii w a3 b.bottom.length c3 b.bottom) (hof : -9223372036854775808 ≤ off ∧ off ≤ 9223372036854775807) (hl : largeB b = false) (hck : checkErr b = 0) (hsp : isSpan (lo, hi) 1 10000 = true) (hio : inB off 0 5 = false) :
  Calls Tryz.prog 3 #[.agg #[.int .i64 b.tab, .slice (a1) (b.panels.length) (c1), .int .i64 b.height, .slice (a2) (b.top.length) (c2), .slice (a3) (b.bottom.length) (c3), .int .i64 b.slot, .bool b.isOpen], .agg #[.int .i64 lo, .int .i64 hi], .int .i64 off] w (fun e w' => e = .returned (.bool true) ∧ Below w.heap.size w w') := by
 have hm1 := h1.len_le
 have hm2 := h2.len_le
 have hm3 := h3.len_le
 obtain ⟨m1, m2, m3⟩ := large_false hl
 have n1 : b.panels.length ≤ 1000 := by omega
 have n2 : b.top.length ≤ 1000 := by omega
 have n3 : b.bottom.length ≤ 1000 := by omega
 refine calls_fr Tryz.func3 Tryz.ntmps3 rfl rfl fun g hg => ?_
 have k0 : g 0 = .agg #[.int .i64 b.tab, .slice (a1) (b.panels.length) (c1), .int .i64 b.height, .slice (a2) (b.top.length) (c2), .slice (a3) (b.bottom.length) (c3), .int .i64 b.slot, .bool b.isOpen] := hg 0
 have k1 : g 1 = .agg #[.int .i64 lo, .int .i64 hi] := hg 1
 have k2 : g 2 = .int .i64 off := hg 2
 clear hg
 have fB0 : Below w.heap.size w w := Below.refl _ _
 refine wp_seq_k fun K1 hK1 => ?_
 refine region_dk 3 [(3, 0), (4, 1), (6, 2)] [[], [], []] (rel [bx 0 #[.int .i64 b.tab, .slice (a1) (b.panels.length) (c1), .int .i64 b.height, .slice (a2) (b.top.length) (c2), .slice (a3) (b.bottom.length) (c3), .int .i64 b.slot, .bool b.isOpen] 24,
   bx 1 #[.int .i64 lo, .int .i64 hi] 26,
   is (.bool false)])
  ⟨bx_k, bx_k, is_k, trivial⟩
  ⟨fun f s W j l m p q i => opb rfl rfl (by simp [go_sem, i.e 0 k0]),
  fun f s W j l m p q i => opb rfl rfl (by simp [go_sem, i.e 1 k1]),
  fun f s W j l m p q i => opv rfl rfl (by simp [go_sem]) rfl, trivial⟩ ?_
 intro f1 s1 W1 hB1 g1 hg1
 have fB1 := hB1.f fB0
 have z1 := hB1.below.size
 obtain ⟨r1_0, br1_0⟩ := hB1.is 0
 have lr1_0 := hB1.lr 0 br1_0
 obtain ⟨r1_1, br1_1⟩ := hB1.is 1
 have lr1_1 := hB1.lr 1 br1_1
 have ne1_0_1 := hB1.nb 0 1
 refine hK1 _ _ ?_
 have k1_2 := kt hg1 2 k2
 have k1_3 := kt hg1 3 r1_0
 have k1_4 := kt hg1 4 r1_1
 have k1_6 := kt hg1 6 (hB1.is 2)
 refine wp_seq_k fun K2 hK2 => ?_
 refine wp_seq_k fun K3 hK3 => ?_
 refine region_dk 2 [(14, 0), (15, 1)] [[], [0]] (rel [is (.agg #[.int .i64 b.tab, .slice (a1) (b.panels.length) (c1), .int .i64 b.height, .slice (a2) (b.top.length) (c2), .slice (a3) (b.bottom.length) (c3), .int .i64 b.slot, .bool b.isOpen]),
   is (.bool false)])
  ⟨is_k, is_k, trivial⟩
  ⟨fun f s W j l m p q i => opv rfl rfl (by simp [go_sem, i.e 3 k1_3, cb br1_0 j 0, cb br1_0 j 1, cb br1_0 j 2, cb br1_0 j 3, cb br1_0 j 4, cb br1_0 j 5, cb br1_0 j 6]) rfl,
  fun f s W j l m p q i => by have r := below_trans fB1 j; exact opDo_call rfl rfl (by simp [go_sem, i.e 14 (l 0 rfl)]) (large_any a1 a2 a3 c1 c2 c3 b W (h1.below r (Nat.le_refl _)) (h2.below r (Nat.le_refl _)) (h3.below r (Nat.le_refl _))) ((fun e W' h => by have h1 := h.1; rw [hl] at h1; exact ⟨_, h1, h.2, rfl⟩)), trivial⟩ ?_
 intro f2 s2 W2 hB2 g2 hg2
 have fB2 := hB2.f fB1
 have z2 := hB2.below.size
 have b2_0 := hB2.b br1_0
 have b2_1 := hB2.b br1_1
 refine hK3 _ _ ?_
 have k2_2 := kt hg2 2 k1_2
 have k2_3 := kt hg2 3 k1_3
 have k2_4 := kt hg2 4 k1_4
 have k2_6 := kt hg2 6 k1_6
 have k2_15 := kt hg2 15 (hB2.is 1)
 refine wp_cond_false ((fr_eval rfl).trans k2_15) ?_
 refine wp_skip ?_
 refine hK2 _ _ ?_
 refine wp_seq_k fun K5 hK5 => ?_
 refine region_dk 3 [(17, 0), (18, 1), (7, 2)] [[], [0], [], [0, 1, 2]] (rel [is (.agg #[.int .i64 b.tab, .slice (a1) (b.panels.length) (c1), .int .i64 b.height, .slice (a2) (b.top.length) (c2), .slice (a3) (b.bottom.length) (c3), .int .i64 b.slot, .bool b.isOpen]),
   fun v s W => NwBlk (s 1) (b) v W,
   bx 2 #[.int .i64 0, .slice (none) (0) (0), .int .i64 0, .slice (none) (0) (0), .slice (none) (0) (0), .int .i64 0, .bool false] 24])
  ⟨is_k, ⟨fun v k W W' hb h => h.below hb, fun v s s' W e h => by have h' : NwBlk (s 1) (b) v W := h; show NwBlk (s' 1) (b) v W; rw [← e 1 (by simp)]; exact h'⟩, bx_k, trivial⟩
  ⟨fun f s W j l m p q i => opv rfl rfl (by simp [go_sem, i.e 3 k2_3, cb b2_0 j 0, cb b2_0 j 1, cb b2_0 j 2, cb b2_0 j 3, cb b2_0 j 4, cb b2_0 j 5, cb b2_0 j 6]) rfl,
  fun f s W j l m p q i => by have r := below_trans fB2 j; exact opDo_call rfl rfl (by simp [go_sem, i.e 17 (l 0 rfl)]) (own_any a1 a2 a3 c1 c2 c3 b W (h1.below r (Nat.le_refl _)) (h2.below r (Nat.le_refl _)) (h3.below r (Nat.le_refl _)) n1 n2 n3) (fun e W' h => by obtain ⟨v, e1, h1, h2⟩ := h; exact ⟨v, e1, h2, (show NwBlk (upd s 1 W.heap.size 1) (b) v W' from by rw [upd_at]; exact h1)⟩),
  fun f s W j l m p q i => opb rfl rfl (by simp [go_sem]), trivial⟩ ?_
 intro f3 s3 W3 hB3 g3 hg3
 have fB3 := hB3.f fB2
 have z3 := hB3.below.size
 have b3_0 := hB3.b b2_0
 have b3_1 := hB3.b b2_1
 have la3_1_1 := hB3.from' 1 (by decide)
 obtain ⟨g141', c144', g142', c145', g143', c146', r3_1, ⟨q147', q149', q148'⟩, ⟨q150', q152', q151'⟩, ⟨q153', q155', q154'⟩⟩ := hB3.is 1
 obtain ⟨r3_2, br3_2⟩ := hB3.is 2
 have lr3_2 := hB3.lr 2 br3_2
 have la3_1 := hB3.from' 1 (by decide)
 have of3_1_2_0 := hB3.off 1 2 (by decide) (by decide) (by decide) q149' (fun W h => (NwBlk.lt h r3_1).1) (fun _ _ _ h => lt_of_blk h.2)
 have of3_1_2_1 := hB3.off 1 2 (by decide) (by decide) (by decide) q152' (fun W h => (NwBlk.lt h r3_1).2.1) (fun _ _ _ h => lt_of_blk h.2)
 have of3_1_2_2 := hB3.off 1 2 (by decide) (by decide) (by decide) q155' (fun W h => (NwBlk.lt h r3_1).2.2) (fun _ _ _ h => lt_of_blk h.2)
 have k3_2 := kt hg3 2 k2_2
 have k3_3 := kt hg3 3 k2_3
 have k3_4 := kt hg3 4 k2_4
 have k3_6 := kt hg3 6 k2_6
 have k3_18 := kt hg3 18 r3_1
 have k3_7 := kt hg3 7 r3_2
 obtain ⟨W4, hW4⟩ : ∃ W', W' = W3.setRow (s3 2) #[.int .i64 b.tab, .slice (some ⟨g141', 0, none⟩) (b.panels.length) (c144'), .int .i64 b.height, .slice (some ⟨g142', 0, none⟩) (b.top.length) (c145'), .slice (some ⟨g143', 0, none⟩) (b.bottom.length) (c146'), .int .i64 b.slot, .bool b.isOpen] := ⟨_, rfl⟩
 refine tail_skip (o := _) rfl ⟨rfl, rfl⟩ (run_seg hW4 (fr_ev k3_7) (fr_ev k3_18) br3_2 rfl rfl rfl rfl) ?_
 obtain ⟨fB4, nb4, ot4, z4⟩ := seg_facts hW4 fB3 br3_2 (by omega)
 clear hW4
 have b4_0 := ot4 _ _ (by omega) b3_0
 have b4_1 := ot4 _ _ (by omega) b3_1
 have q156' := (q147'.other ot4 q148' (by omega) z4)
 have q157' := Nat.lt_of_lt_of_le q148' z4
 have q158' := (q150'.other ot4 q151' (by omega) z4)
 have q159' := Nat.lt_of_lt_of_le q151' z4
 have q160' := (q153'.other ot4 q154' (by omega) z4)
 have q161' := Nat.lt_of_lt_of_le q154' z4
 refine wpOps_end ?_
 refine hK5 _ _ ?_
 refine wp_seq_k fun K6 hK6 => ?_
 refine region_dk 9 [(20, 0), (21, 1), (22, 2), (23, 3), (19, 4), (24, 5), (25, 6), (8, 7), (9, 8)] [[], [], [], [0, 1, 2], [0, 1, 2, 3], [0, 1, 2, 3, 4], [0, 1, 2, 3, 4], [0, 1, 2, 3, 4, 5], [0, 1, 2, 3, 4, 5, 6, 7]] (rel [is (.agg #[.int .i64 b.tab, .slice (some ⟨g141', 0, none⟩) (b.panels.length) (c144'), .int .i64 b.height, .slice (some ⟨g142', 0, none⟩) (b.top.length) (c145'), .slice (some ⟨g143', 0, none⟩) (b.bottom.length) (c146'), .int .i64 b.slot, .bool b.isOpen]),
   is (.agg #[.int .i64 lo, .int .i64 hi]),
   is (.int .i64 off),
   ab fun v W => ∃ x0, v = .tuple #[x0, .int .i64 7] ∧ IsNil x0 W,
   ab fun v W => ∃ x0, v = .tuple #[x0, .int .i64 7] ∧ IsNil x0 W,
   ab fun v W => IsNil v W,
   is (.int .i64 7),
   ab fun v W => IsNil v W,
   is (.int .i64 7)])
  ⟨is_k, is_k, is_k, ab_k fun v W W' hb ⟨x0, e, h0⟩ => ⟨x0, e, h0⟩, ab_k fun v W W' hb ⟨x0, e, h0⟩ => ⟨x0, e, h0⟩, ab_k fun v W W' hb h => h, is_k, ab_k fun v W W' hb h => h, is_k, trivial⟩
  ⟨fun f s W j l m p q i => opv rfl rfl (by simp [go_sem, i.e 7 k3_7, cb nb4 j 0, cb nb4 j 1, cb nb4 j 2, cb nb4 j 3, cb nb4 j 4, cb nb4 j 5, cb nb4 j 6]) rfl,
  fun f s W j l m p q i => opv rfl rfl (by simp [go_sem, i.e 4 k3_4, cb b4_1 j 0, cb b4_1 j 1]) rfl,
  fun f s W j l m p q i => opv rfl rfl (by simp [go_sem, i.e 2 k3_2]) rfl,
  fun f s W j l m p q i => opDo_call (args := #[.agg #[.int .i64 b.tab, .slice (some ⟨g141', 0, none⟩) (b.panels.length) (c144'), .int .i64 b.height, .slice (some ⟨g142', 0, none⟩) (b.top.length) (c145'), .slice (some ⟨g143', 0, none⟩) (b.bottom.length) (c146'), .int .i64 b.slot, .bool b.isOpen], .agg #[.int .i64 lo, .int .i64 hi], .int .i64 off]) rfl rfl (by simp [go_sem, i.e 20 (l 0 rfl), i.e 21 (l 1 rfl), i.e 22 (l 2 rfl)]) (inner_any _ b lo hi off W ⟨_, _, _, _, _, _, _, _, _, rfl, ((q156'.below j (Nat.le_refl _))), ((q158'.below j (Nat.le_refl _))), ((q160'.below j (Nat.le_refl _)))⟩ hof.1 hof.2) ((fun e W' h => by obtain ⟨a, n, c, e1, h1, h2⟩ := h; rw [(inner_e3 hck hsp hio)] at e1; rw [if_neg (by rw [(inner_e3 hck hsp hio)]; exact (by decide))] at h1; exact ⟨_, e1, h2, _, rfl, isNilP_of h1 rfl⟩)),
  fun f s W j l m p q i => opv (v := (f 3)) rfl rfl (by simp [go_sem, (i.at' 23 rfl : q.tmps[23]?.getD undef = f 3)] <;> rfl) (l 3 rfl),
  fun f s W j l m p q i => by obtain ⟨x4_0, d4, p4_0⟩ := (l 4 rfl); exact opv (v := x4_0) rfl rfl (by simp [go_sem, i.e 19 d4]) p4_0,
  fun f s W j l m p q i => by obtain ⟨x4_0, d4, p4_0⟩ := (l 4 rfl); exact opv rfl rfl (by simp [go_sem, i.e 19 d4]) rfl,
  fun f s W j l m p q i => opv (v := (f 5)) rfl rfl (by simp [go_sem, (i.at' 24 rfl : q.tmps[24]?.getD undef = f 5)] <;> rfl) (l 5 rfl),
  fun f s W j l m p q i => opv rfl rfl (by simp [go_sem, i.e 25 (l 6 rfl)]) rfl, trivial⟩ ?_
 intro f5 s5 W5 hB5 g5 hg5
 have fB5 := hB5.f fB4
 have z5 := hB5.below.size
 have b5_0 := hB5.b b4_0
 have b5_1 := hB5.b b4_1
 have b5_2 := hB5.b nb4
 have q164' := (q156'.bw hB5)
 have q165' := (hB5.lt q157')
 have q166' := (q158'.bw hB5)
 have q167' := (hB5.lt q159')
 have q168' := (q160'.bw hB5)
 have q169' := (hB5.lt q161')
 obtain ⟨a170', c171', r5_7⟩ := hB5.is 7
 refine hK6 _ _ ?_
 have k5_2 := kt hg5 2 k3_2
 have k5_3 := kt hg5 3 k3_3
 have k5_4 := kt hg5 4 k3_4
 have k5_6 := kt hg5 6 k3_6
 have k5_7 := kt hg5 7 k3_7
 have k5_8 := kt hg5 8 r5_7
 have k5_9 := kt hg5 9 (hB5.is 8)
 refine wp_seq_k fun K7 hK7 => ?_
 refine wp_seq_k fun K8 hK8 => ?_
 refine region_dk 4 [(26, 0), (27, 1), (28, 2), (29, 3)] [[], [], [0, 1], [0, 1, 2]] (rel [is (.agg #[.int .i64 b.tab, .slice (some ⟨g141', 0, none⟩) (b.panels.length) (c144'), .int .i64 b.height, .slice (some ⟨g142', 0, none⟩) (b.top.length) (c145'), .slice (some ⟨g143', 0, none⟩) (b.bottom.length) (c146'), .int .i64 b.slot, .bool b.isOpen]),
   is (.agg #[.int .i64 b.tab, .slice (a1) (b.panels.length) (c1), .int .i64 b.height, .slice (a2) (b.top.length) (c2), .slice (a3) (b.bottom.length) (c3), .int .i64 b.slot, .bool b.isOpen]),
   is (.bool true),
   is (.bool false)])
  ⟨is_k, is_k, is_k, is_k, trivial⟩
  ⟨fun f s W j l m p q i => opv rfl rfl (by simp [go_sem, i.e 7 k5_7, cb b5_2 j 0, cb b5_2 j 1, cb b5_2 j 2, cb b5_2 j 3, cb b5_2 j 4, cb b5_2 j 5, cb b5_2 j 6]) rfl,
  fun f s W j l m p q i => opv rfl rfl (by simp [go_sem, i.e 3 k5_3, cb b5_0 j 0, cb b5_0 j 1, cb b5_0 j 2, cb b5_0 j 3, cb b5_0 j 4, cb b5_0 j 5, cb b5_0 j 6]) rfl,
  fun f s W j l m p q i => by have r := below_trans fB5 j; exact opDo_call (args := #[.agg #[.int .i64 b.tab, .slice (some ⟨g141', 0, none⟩) (b.panels.length) (c144'), .int .i64 b.height, .slice (some ⟨g142', 0, none⟩) (b.top.length) (c145'), .slice (some ⟨g143', 0, none⟩) (b.bottom.length) (c146'), .int .i64 b.slot, .bool b.isOpen], .agg #[.int .i64 b.tab, .slice (a1) (b.panels.length) (c1), .int .i64 b.height, .slice (a2) (b.top.length) (c2), .slice (a3) (b.bottom.length) (c3), .int .i64 b.slot, .bool b.isOpen]]) rfl rfl (by simp [go_sem, i.e 26 (l 0 rfl), i.e 27 (l 1 rfl)]) (same_blk (b := b) (d := b) ⟨_, _, _, _, _, _, _, _, _, rfl, ((q164'.below j (Nat.le_refl _))), ((q166'.below j (Nat.le_refl _))), ((q168'.below j (Nat.le_refl _)))⟩ ⟨_, _, _, _, _, _, _, _, _, rfl, (h1.below r (Nat.le_refl _)), (h2.below r (Nat.le_refl _)), (h3.below r (Nat.le_refl _))⟩) ((fun e W' h => by have h1 := h.1; rw [sameB_self] at h1; exact ⟨_, h1, h.2, rfl⟩)),
  fun f s W j l m p q i => opv rfl rfl (by simp [go_sem, i.e 28 (l 2 rfl)]) rfl, trivial⟩ ?_
 intro f6 s6 W6 hB6 g6 hg6
 have fB6 := hB6.f fB5
 have z6 := hB6.below.size
 have b6_0 := hB6.b b5_0
 have b6_1 := hB6.b b5_1
 have b6_2 := hB6.b b5_2
 have q172' := (q164'.bw hB6)
 have q173' := (hB6.lt q165')
 have q174' := (q166'.bw hB6)
 have q175' := (hB6.lt q167')
 have q176' := (q168'.bw hB6)
 have q177' := (hB6.lt q169')
 refine hK8 _ _ ?_
 have k6_2 := kt hg6 2 k5_2
 have k6_3 := kt hg6 3 k5_3
 have k6_4 := kt hg6 4 k5_4
 have k6_6 := kt hg6 6 k5_6
 have k6_8 := kt hg6 8 k5_8
 have k6_9 := kt hg6 9 k5_9
 have k6_29 := kt hg6 29 (hB6.is 3)
 refine wp_cond_false ((fr_eval rfl).trans k6_29) ?_
 refine wp_skip ?_
 refine hK7 _ _ ?_
 refine wp_seq_k fun K10 hK10 => ?_
 refine region_dk 3 [(30, 0), (31, 1), (10, 2)] [[], [0], [0, 1]] (rel [is (.agg #[.int .i64 b.tab, .slice (a1) (b.panels.length) (c1), .int .i64 b.height, .slice (a2) (b.top.length) (c2), .slice (a3) (b.bottom.length) (c3), .int .i64 b.slot, .bool b.isOpen]),
   is (.int .i64 0),
   is (.int .i64 0)])
  ⟨is_k, is_k, is_k, trivial⟩
  ⟨fun f s W j l m p q i => opv rfl rfl (by simp [go_sem, i.e 3 k6_3, cb b6_0 j 0, cb b6_0 j 1, cb b6_0 j 2, cb b6_0 j 3, cb b6_0 j 4, cb b6_0 j 5, cb b6_0 j 6]) rfl,
  fun f s W j l m p q i => by have r := below_trans fB6 j; exact opDo_call (args := #[.agg #[.int .i64 b.tab, .slice (a1) (b.panels.length) (c1), .int .i64 b.height, .slice (a2) (b.top.length) (c2), .slice (a3) (b.bottom.length) (c3), .int .i64 b.slot, .bool b.isOpen]]) rfl rfl (by simp [go_sem, i.e 30 (l 0 rfl)]) (refCheck_blk ⟨_, _, _, _, _, _, _, _, _, rfl, (h1.below r (Nat.le_refl _)), (h2.below r (Nat.le_refl _)), (h3.below r (Nat.le_refl _))⟩) ((fun e W' h => by have h1 := h.1; rw [refCheck_eq, hck] at h1; exact ⟨_, h1, h.2, rfl⟩)),
  fun f s W j l m p q i => opv rfl rfl (by simp [go_sem, i.e 31 (l 1 rfl)]) rfl, trivial⟩ ?_
 intro f7 s7 W7 hB7 g7 hg7
 have fB7 := hB7.f fB6
 have z7 := hB7.below.size
 have b7_0 := hB7.b b6_0
 have b7_1 := hB7.b b6_1
 have b7_2 := hB7.b b6_2
 have q178' := (q172'.bw hB7)
 have q179' := (hB7.lt q173')
 have q180' := (q174'.bw hB7)
 have q181' := (hB7.lt q175')
 have q182' := (q176'.bw hB7)
 have q183' := (hB7.lt q177')
 refine hK10 _ _ ?_
 have k7_2 := kt hg7 2 k6_2
 have k7_3 := kt hg7 3 k6_3
 have k7_4 := kt hg7 4 k6_4
 have k7_6 := kt hg7 6 k6_6
 have k7_8 := kt hg7 8 k6_8
 have k7_9 := kt hg7 9 k6_9
 have k7_10 := kt hg7 10 (hB7.is 2)
 refine wp_seq_k fun K11 hK11 => ?_
 refine wp_seq_k fun K12 hK12 => ?_
 refine region_dk 7 [(32, 0), (33, 1), (34, 2), (35, 3), (36, 4), (37, 5), (38, 6)] [[], [0], [0, 1], [0, 1, 2], [0, 1, 2, 3], [0, 1, 2, 3, 4], [0, 1, 2, 3, 4, 5]] (rel [is (.int .i64 0),
   is (.bool true),
   is (.bool true),
   gd (true) true (is (.agg #[.int .i64 lo, .int .i64 hi])),
   gd (true) true (is (.bool true)),
   gd (true) true (is (.bool false)),
   is (.bool false)])
  ⟨is_k, is_k, is_k, gd_k (is_k), gd_k (is_k), gd_k (is_k), is_k, trivial⟩
  ⟨fun f s W j l m p q i => opv rfl rfl (by simp [go_sem, i.e 10 k7_10]) rfl,
  fun f s W j l m p q i => opv rfl rfl (by simp [go_sem, i.e 32 (l 0 rfl)]) rfl,
  fun f s W j l m p q i => opv rfl rfl (by simp [go_sem, i.e 33 (l 1 rfl)]) rfl,
  fun f s W j l m p q i => gdo rfl rfl (i.says (d := 34) rfl rfl (l 2 rfl)) fun hgd0 => gv (by simp [go_sem, i.e 4 k7_4, cb b7_1 j 0, cb b7_1 j 1]) rfl,
  fun f s W j l m p q i => gdo rfl rfl (i.says (d := 34) rfl rfl (l 2 rfl)) fun hgd0 => wp_called (by simp [go_sem, i.e 35 ((l 3 rfl).1 hgd0)]) (spanR_any lo hi 1 10000 W) ((fun e W' h => by have h1 := h.1; rw [spanR_eq, hsp] at h1; exact ⟨_, h1, h.2, rfl⟩)),
  fun f s W j l m p q i => gdo rfl rfl (i.says (d := 34) rfl rfl (l 2 rfl)) fun hgd0 => gv (by simp [go_sem, i.e 36 ((l 4 rfl).1 hgd0)]) rfl,
  fun f s W j l m p q i => opk (c := true) rfl rfl (fun h => absurd h (by decide)) (fun _ => by simp [go_sem, i.e 34 (l 2 rfl), i.e 37 ((l 5 rfl).1 rfl)]), trivial⟩ ?_
 intro f8 s8 W8 hB8 g8 hg8
 have fB8 := hB8.f fB7
 have z8 := hB8.below.size
 have b8_0 := hB8.b b7_0
 have b8_1 := hB8.b b7_1
 have b8_2 := hB8.b b7_2
 have q184' := (q178'.bw hB8)
 have q185' := (hB8.lt q179')
 have q186' := (q180'.bw hB8)
 have q187' := (hB8.lt q181')
 have q188' := (q182'.bw hB8)
 have q189' := (hB8.lt q183')
 refine hK12 _ _ ?_
 have k8_2 := kt hg8 2 k7_2
 have k8_3 := kt hg8 3 k7_3
 have k8_4 := kt hg8 4 k7_4
 have k8_6 := kt hg8 6 k7_6
 have k8_8 := kt hg8 8 k7_8
 have k8_9 := kt hg8 9 k7_9
 have k8_10 := kt hg8 10 k7_10
 have k8_38 := kt hg8 38 (hB8.is 6)
 refine wp_cond_false ((fr_eval rfl).trans k8_38) ?_
 refine wp_skip ?_
 refine hK11 _ _ ?_
 refine wp_seq_k fun K14 hK14 => ?_
 refine wp_seq_k fun K15 hK15 => ?_
 refine region_dk 7 [(39, 0), (40, 1), (41, 2), (42, 3), (43, 4), (44, 5), (45, 6)] [[], [0], [0, 1], [0, 1, 2], [0, 1, 2, 3], [0, 1, 2, 3, 4], [0, 1, 2, 3, 4, 5]] (rel [is (.int .i64 0),
   is (.bool true),
   is (.bool true),
   gd (true) true (is (.int .i64 off)),
   gd (true) true (is (.bool false)),
   gd (true) true (is (.bool true)),
   is (.bool true)])
  ⟨is_k, is_k, is_k, gd_k (is_k), gd_k (is_k), gd_k (is_k), is_k, trivial⟩
  ⟨fun f s W j l m p q i => opv rfl rfl (by simp [go_sem, i.e 10 k8_10]) rfl,
  fun f s W j l m p q i => opv rfl rfl (by simp [go_sem, i.e 39 (l 0 rfl)]) rfl,
  fun f s W j l m p q i => opv rfl rfl (by simp [go_sem, i.e 40 (l 1 rfl)]) rfl,
  fun f s W j l m p q i => gdo rfl rfl (i.says (d := 41) rfl rfl (l 2 rfl)) fun hgd0 => gv (by simp [go_sem, i.e 2 k8_2]) rfl,
  fun f s W j l m p q i => gdo rfl rfl (i.says (d := 41) rfl rfl (l 2 rfl)) fun hgd0 => wp_called (by simp [go_sem, i.e 42 ((l 3 rfl).1 hgd0)]) (in_any off 0 5 W) ((fun e W' h => by have h1 := h.1; rw [hio] at h1; exact ⟨_, h1, h.2, rfl⟩)),
  fun f s W j l m p q i => gdo rfl rfl (i.says (d := 41) rfl rfl (l 2 rfl)) fun hgd0 => gv (by simp [go_sem, i.e 43 ((l 4 rfl).1 hgd0)]) rfl,
  fun f s W j l m p q i => opk (c := true) rfl rfl (fun h => absurd h (by decide)) (fun _ => by simp [go_sem, i.e 41 (l 2 rfl), i.e 44 ((l 5 rfl).1 rfl)]), trivial⟩ ?_
 intro f9 s9 W9 hB9 g9 hg9
 have fB9 := hB9.f fB8
 have z9 := hB9.below.size
 have b9_0 := hB9.b b8_0
 have b9_1 := hB9.b b8_1
 have b9_2 := hB9.b b8_2
 have q190' := (q184'.bw hB9)
 have q191' := (hB9.lt q185')
 have q192' := (q186'.bw hB9)
 have q193' := (hB9.lt q187')
 have q194' := (q188'.bw hB9)
 have q195' := (hB9.lt q189')
 refine hK15 _ _ ?_
 have k9_2 := kt hg9 2 k8_2
 have k9_3 := kt hg9 3 k8_3
 have k9_4 := kt hg9 4 k8_4
 have k9_6 := kt hg9 6 k8_6
 have k9_8 := kt hg9 8 k8_8
 have k9_9 := kt hg9 9 k8_9
 have k9_10 := kt hg9 10 k8_10
 have k9_45 := kt hg9 45 (hB9.is 6)
 refine wp_cond_true ((fr_eval rfl).trans k9_45) ?_
 refine region_dk 1 [(10, 0)] [[]] (rel [is (.int .i64 7)])
  ⟨is_k, trivial⟩
  ⟨fun f s W j l m p q i => opv rfl rfl (by simp [go_sem]) rfl, trivial⟩ ?_
 intro f10 s10 W10 hB10 g10 hg10
 have fB10 := hB10.f fB9
 have z10 := hB10.below.size
 have b10_0 := hB10.b b9_0
 have b10_1 := hB10.b b9_1
 have b10_2 := hB10.b b9_2
 have q196' := (q190'.bw hB10)
 have q197' := (hB10.lt q191')
 have q198' := (q192'.bw hB10)
 have q199' := (hB10.lt q193')
 have q200' := (q194'.bw hB10)
 have q201' := (hB10.lt q195')
 refine hK14 _ _ ?_
 have k10_2 := kt hg10 2 k9_2
 have k10_3 := kt hg10 3 k9_3
 have k10_4 := kt hg10 4 k9_4
 have k10_6 := kt hg10 6 k9_6
 have k10_8 := kt hg10 8 k9_8
 have k10_9 := kt hg10 9 k9_9
 have k10_10 := kt hg10 10 (hB10.is 0)
 refine wp_seq_k fun K17 hK17 => ?_
 refine wp_seq_k fun K18 hK18 => ?_
 refine region_dk 2 [(46, 0), (47, 1)] [[], [0]] (rel [is (.int .i64 7),
   is (.bool true)])
  ⟨is_k, is_k, trivial⟩
  ⟨fun f s W j l m p q i => opv rfl rfl (by simp [go_sem, i.e 10 k10_10]) rfl,
  fun f s W j l m p q i => opv rfl rfl (by simp [go_sem, i.e 46 (l 0 rfl)]) rfl, trivial⟩ ?_
 intro f11 s11 W11 hB11 g11 hg11
 have fB11 := hB11.f fB10
 have z11 := hB11.below.size
 have b11_0 := hB11.b b10_0
 have b11_1 := hB11.b b10_1
 have b11_2 := hB11.b b10_2
 have q202' := (q196'.bw hB11)
 have q203' := (hB11.lt q197')
 have q204' := (q198'.bw hB11)
 have q205' := (hB11.lt q199')
 have q206' := (q200'.bw hB11)
 have q207' := (hB11.lt q201')
 refine hK18 _ _ ?_
 have k11_2 := kt hg11 2 k10_2
 have k11_3 := kt hg11 3 k10_3
 have k11_4 := kt hg11 4 k10_4
 have k11_6 := kt hg11 6 k10_6
 have k11_8 := kt hg11 8 k10_8
 have k11_9 := kt hg11 9 k10_9
 have k11_10 := kt hg11 10 k10_10
 have k11_47 := kt hg11 47 (hB11.is 1)
 refine wp_cond_true ((fr_eval rfl).trans k11_47) ?_
 refine wp_seq_k fun K20 hK20 => ?_
 refine region_dk 12 [(48, 0), (49, 1), (50, 2), (51, 3), (52, 4), (53, 5), (54, 6), (55, 7), (56, 8), (57, 9), (58, 10), (6, 11)] [[], [], [0, 1], [0, 1, 2], [0, 1, 2, 3], [0, 1, 2, 3, 4], [0, 1, 2, 3, 4, 5], [0, 1, 2, 3, 4, 5, 6], [0, 1, 2, 3, 4, 5, 6, 7], [0, 1, 2, 3, 4, 5, 6, 7, 8], [0, 1, 2, 3, 4, 5, 6, 7, 8, 9], [0, 1, 2, 3, 4, 5, 6, 7, 8, 9, 10]] (rel [is (.int .i64 7),
   is (.int .i64 7),
   is (.bool true),
   is (.bool true),
   gd (true) true (is (.slice (a170') (0) (c171'))),
   gd (true) true (is (.int .i64 0)),
   gd (true) true (is (.bool true)),
   is (.bool true),
   is (.bool true),
   gd (true) true (is (.bool true)),
   is (.bool true),
   is (.bool true)])
  ⟨is_k, is_k, is_k, is_k, gd_k (is_k), gd_k (is_k), gd_k (is_k), is_k, is_k, gd_k (is_k), is_k, is_k, trivial⟩
  ⟨fun f s W j l m p q i => opv rfl rfl (by simp [go_sem, i.e 9 k11_9]) rfl,
  fun f s W j l m p q i => opv rfl rfl (by simp [go_sem, i.e 10 k11_10]) rfl,
  fun f s W j l m p q i => opv rfl rfl (by simp [go_sem, i.e 48 (l 0 rfl), i.e 49 (l 1 rfl)]) rfl,
  fun f s W j l m p q i => opv rfl rfl (by simp [go_sem, i.e 50 (l 2 rfl)]) rfl,
  fun f s W j l m p q i => gdo rfl rfl (i.says (d := 51) rfl rfl (l 3 rfl)) fun hgd0 => gv (by simp [go_sem, i.e 8 k11_8]) rfl,
  fun f s W j l m p q i => gdo rfl rfl (i.says (d := 51) rfl rfl (l 3 rfl)) fun hgd0 => gv (by simp [go_sem, i.e 52 ((l 4 rfl).1 hgd0)]) rfl,
  fun f s W j l m p q i => gdo rfl rfl (i.says (d := 51) rfl rfl (l 3 rfl)) fun hgd0 => gv (by simp [go_sem, i.e 53 ((l 5 rfl).1 hgd0)]) rfl,
  fun f s W j l m p q i => opk (c := true) rfl rfl (fun h => absurd h (by decide)) (fun _ => by simp [go_sem, i.e 51 (l 3 rfl), i.e 54 ((l 6 rfl).1 rfl)]),
  fun f s W j l m p q i => opv rfl rfl (by simp [go_sem, i.e 55 (l 7 rfl)]) rfl,
  fun f s W j l m p q i => gdo rfl rfl (i.says (d := 56) rfl rfl (l 8 rfl)) fun hgd0 => gc (by simp [go_sem]) (known_any W),
  fun f s W j l m p q i => opk (c := true) rfl rfl (fun h => absurd h (by decide)) (fun _ => by simp [go_sem, i.e 56 (l 8 rfl), i.e 57 ((l 9 rfl).1 rfl)]),
  fun f s W j l m p q i => opv rfl rfl (by simp [go_sem, i.e 58 (l 10 rfl)]) rfl, trivial⟩ ?_
 intro f12 s12 W12 hB12 g12 hg12
 have fB12 := hB12.f fB11
 have z12 := hB12.below.size
 have b12_0 := hB12.b b11_0
 have b12_1 := hB12.b b11_1
 have b12_2 := hB12.b b11_2
 have q208' := (q202'.bw hB12)
 have q209' := (hB12.lt q203')
 have q210' := (q204'.bw hB12)
 have q211' := (hB12.lt q205')
 have q212' := (q206'.bw hB12)
 have q213' := (hB12.lt q207')
 refine hK20 _ _ ?_
 have k12_2 := kt hg12 2 k11_2
 have k12_3 := kt hg12 3 k11_3
 have k12_4 := kt hg12 4 k11_4
 have k12_8 := kt hg12 8 k11_8
 have k12_9 := kt hg12 9 k11_9
 have k12_6 := kt hg12 6 (hB12.is 11)
 refine wp_ret ?_
 refine then_ret ?_
 refine leave_one (N := 94) (v := .bool true) (.inr rfl) Tryz.results3 rfl k12_6 ?_
 exact ⟨rfl, fB12⟩
set_option maxRecDepth 100000 in
set_option maxHeartbeats 8000000 in
theorem inners_good (a1 a2 a3 : Option Addr) (c1 c2 c3 : Nat) (b : Bl) (lo hi off : Int) (w : World) (h1 : Ii w a1 b.panels.length c1 b.panels) (h2 : Ii w a2 b.top.length c2 b.top) (h3 : Ii w a3 b.bottom.length c3 b.bottom) (hof : -9223372036854775808 ≤ off ∧ off ≤ 9223372036854775807) (L : List Sp) (hl : largeB b = false) (hck : checkErr b = 0) (hsp : isSpan (lo, hi) 1 10000 = true) (hio : inB off 0 5 = true) (hL : innerL b (lo, hi) off = L) :
  Calls Tryz.prog 3 #[.agg #[.int .i64 b.tab, .slice (a1) (b.panels.length) (c1), .int .i64 b.height, .slice (a2) (b.top.length) (c2), .slice (a3) (b.bottom.length) (c3), .int .i64 b.slot, .bool b.isOpen], .agg #[.int .i64 lo, .int .i64 hi], .int .i64 off] w (fun e w' => e = .returned (.bool true) ∧ Below w.heap.size w w') := by
 have hm1 := h1.len_le
 have hm2 := h2.len_le
 have hm3 := h3.len_le
 obtain ⟨m1, m2, m3⟩ := large_false hl
 have n1 : b.panels.length ≤ 1000 := by omega
 have n2 : b.top.length ≤ 1000 := by omega
 have n3 : b.bottom.length ≤ 1000 := by omega
 have hE := inner_e4 hck hsp hio
 obtain ⟨hs1, hs2, hs3⟩ := isSpan_iff.1 hsp
 obtain ⟨hio1, hio2⟩ := inB_iff.1 hio
 have hL9 : L.length = 9 := by rw [← hL]; rfl
 have hL9' : ((L.length : Int) != 9) = false := by rw [hL9]; rfl
 refine calls_fr Tryz.func3 Tryz.ntmps3 rfl rfl fun g hg => ?_
 have k0 : g 0 = .agg #[.int .i64 b.tab, .slice (a1) (b.panels.length) (c1), .int .i64 b.height, .slice (a2) (b.top.length) (c2), .slice (a3) (b.bottom.length) (c3), .int .i64 b.slot, .bool b.isOpen] := hg 0
 have k1 : g 1 = .agg #[.int .i64 lo, .int .i64 hi] := hg 1
 have k2 : g 2 = .int .i64 off := hg 2
 clear hg
 have fB0 : Below w.heap.size w w := Below.refl _ _
 refine wp_seq_k fun K1 hK1 => ?_
 refine region_dk 3 [(3, 0), (4, 1), (6, 2)] [[], [], []] (rel [bx 0 #[.int .i64 b.tab, .slice (a1) (b.panels.length) (c1), .int .i64 b.height, .slice (a2) (b.top.length) (c2), .slice (a3) (b.bottom.length) (c3), .int .i64 b.slot, .bool b.isOpen] 24,
   bx 1 #[.int .i64 lo, .int .i64 hi] 26,
   is (.bool false)])
  ⟨bx_k, bx_k, is_k, trivial⟩
  ⟨fun f s W l m p q r j => opb rfl rfl (by simp [go_sem, j.e 0 k0]),
  fun f s W l m p q r j => opb rfl rfl (by simp [go_sem, j.e 1 k1]),
  fun f s W l m p q r j => opv rfl rfl (by simp [go_sem]) rfl, trivial⟩ ?_
 intro f1 s1 W1 hB1 g1 hg1
 have fB1 := hB1.f fB0
 have z1 := hB1.below.size
 obtain ⟨r1_0, br1_0⟩ := hB1.is 0
 have lr1_0 := hB1.lr 0 br1_0
 obtain ⟨r1_1, br1_1⟩ := hB1.is 1
 have lr1_1 := hB1.lr 1 br1_1
 have ne1_0_1 := hB1.nb 0 1
 refine hK1 _ _ ?_
 have k1_2 := kt hg1 2 k2
 have k1_3 := kt hg1 3 r1_0
 have k1_4 := kt hg1 4 r1_1
 have k1_6 := kt hg1 6 (hB1.is 2)
 refine wp_seq_k fun K2 hK2 => ?_
 refine wp_seq_k fun K3 hK3 => ?_
 refine region_dk 2 [(14, 0), (15, 1)] [[], [0]] (rel [is (.agg #[.int .i64 b.tab, .slice (a1) (b.panels.length) (c1), .int .i64 b.height, .slice (a2) (b.top.length) (c2), .slice (a3) (b.bottom.length) (c3), .int .i64 b.slot, .bool b.isOpen]),
   is (.bool false)])
  ⟨is_k, is_k, trivial⟩
  ⟨fun f s W l m p q r j => opv rfl rfl (by simp [go_sem, j.e 3 k1_3, cb br1_0 l 0, cb br1_0 l 1, cb br1_0 l 2, cb br1_0 l 3, cb br1_0 l 4, cb br1_0 l 5, cb br1_0 l 6]) rfl,
  fun f s W l m p q r j => by have u := below_trans fB1 l; exact opDo_call rfl rfl (by simp [go_sem, j.e 14 (m 0 rfl)]) (large_any a1 a2 a3 c1 c2 c3 b W (h1.below u (Nat.le_refl _)) (h2.below u (Nat.le_refl _)) (h3.below u (Nat.le_refl _))) ((fun e W' h => by have h1 := h.1; rw [hl] at h1; exact ⟨_, h1, h.2, rfl⟩)), trivial⟩ ?_
 intro f2 s2 W2 hB2 g2 hg2
 have fB2 := hB2.f fB1
 have z2 := hB2.below.size
 have b2_0 := hB2.b br1_0
 have b2_1 := hB2.b br1_1
 refine hK3 _ _ ?_
 have k2_2 := kt hg2 2 k1_2
 have k2_3 := kt hg2 3 k1_3
 have k2_4 := kt hg2 4 k1_4
 have k2_6 := kt hg2 6 k1_6
 have k2_15 := kt hg2 15 (hB2.is 1)
 refine wp_cond_false ((fr_eval rfl).trans k2_15) ?_
 refine wp_skip ?_
 refine hK2 _ _ ?_
 refine wp_seq_k fun K5 hK5 => ?_
 refine region_dk 3 [(17, 0), (18, 1), (7, 2)] [[], [0], [], [0, 1, 2]] (rel [is (.agg #[.int .i64 b.tab, .slice (a1) (b.panels.length) (c1), .int .i64 b.height, .slice (a2) (b.top.length) (c2), .slice (a3) (b.bottom.length) (c3), .int .i64 b.slot, .bool b.isOpen]),
   fun v s W => NwBlk (s 1) (b) v W,
   bx 2 #[.int .i64 0, .slice (none) (0) (0), .int .i64 0, .slice (none) (0) (0), .slice (none) (0) (0), .int .i64 0, .bool false] 24])
  ⟨is_k, ⟨fun v k W W' hb h => h.below hb, fun v s s' W e h => by have h' : NwBlk (s 1) (b) v W := h; show NwBlk (s' 1) (b) v W; rw [← e 1 (by simp)]; exact h'⟩, bx_k, trivial⟩
  ⟨fun f s W l m p q r j => opv rfl rfl (by simp [go_sem, j.e 3 k2_3, cb b2_0 l 0, cb b2_0 l 1, cb b2_0 l 2, cb b2_0 l 3, cb b2_0 l 4, cb b2_0 l 5, cb b2_0 l 6]) rfl,
  fun f s W l m p q r j => by have u := below_trans fB2 l; exact opDo_call rfl rfl (by simp [go_sem, j.e 17 (m 0 rfl)]) (own_any a1 a2 a3 c1 c2 c3 b W (h1.below u (Nat.le_refl _)) (h2.below u (Nat.le_refl _)) (h3.below u (Nat.le_refl _)) n1 n2 n3) (fun e W' h => by obtain ⟨v, e1, h1, h2⟩ := h; exact ⟨v, e1, h2, (show NwBlk (upd s 1 W.heap.size 1) (b) v W' from by rw [upd_at]; exact h1)⟩),
  fun f s W l m p q r j => opb rfl rfl (by simp [go_sem]), trivial⟩ ?_
 intro f3 s3 W3 hB3 g3 hg3
 have fB3 := hB3.f fB2
 have z3 := hB3.below.size
 have b3_0 := hB3.b b2_0
 have b3_1 := hB3.b b2_1
 have la3_1_1 := hB3.from' 1 (by decide)
 obtain ⟨g214', c217', g215', c218', g216', c219', r3_1, ⟨q220', q222', q221'⟩, ⟨q223', q225', q224'⟩, ⟨q226', q228', q227'⟩⟩ := hB3.is 1
 obtain ⟨r3_2, br3_2⟩ := hB3.is 2
 have lr3_2 := hB3.lr 2 br3_2
 have la3_1 := hB3.from' 1 (by decide)
 have of3_1_2_0 := hB3.off 1 2 (by decide) (by decide) (by decide) q222' (fun W h => (NwBlk.lt h r3_1).1) (fun _ _ _ h => lt_of_blk h.2)
 have of3_1_2_1 := hB3.off 1 2 (by decide) (by decide) (by decide) q225' (fun W h => (NwBlk.lt h r3_1).2.1) (fun _ _ _ h => lt_of_blk h.2)
 have of3_1_2_2 := hB3.off 1 2 (by decide) (by decide) (by decide) q228' (fun W h => (NwBlk.lt h r3_1).2.2) (fun _ _ _ h => lt_of_blk h.2)
 have k3_2 := kt hg3 2 k2_2
 have k3_3 := kt hg3 3 k2_3
 have k3_4 := kt hg3 4 k2_4
 have k3_6 := kt hg3 6 k2_6
 have k3_18 := kt hg3 18 r3_1
 have k3_7 := kt hg3 7 r3_2
 obtain ⟨W4, hW4⟩ : ∃ W', W' = W3.setRow (s3 2) #[.int .i64 b.tab, .slice (some ⟨g214', 0, none⟩) (b.panels.length) (c217'), .int .i64 b.height, .slice (some ⟨g215', 0, none⟩) (b.top.length) (c218'), .slice (some ⟨g216', 0, none⟩) (b.bottom.length) (c219'), .int .i64 b.slot, .bool b.isOpen] := ⟨_, rfl⟩
 refine tail_skip (o := _) rfl ⟨rfl, rfl⟩ (run_seg hW4 (fr_ev k3_7) (fr_ev k3_18) br3_2 rfl rfl rfl rfl) ?_
 obtain ⟨fB4, nb4, ot4, z4⟩ := seg_facts hW4 fB3 br3_2 (by omega)
 clear hW4
 have b4_0 := ot4 _ _ (by omega) b3_0
 have b4_1 := ot4 _ _ (by omega) b3_1
 have q229' := (q220'.other ot4 q221' (by omega) z4)
 have q230' := Nat.lt_of_lt_of_le q221' z4
 have q231' := (q223'.other ot4 q224' (by omega) z4)
 have q232' := Nat.lt_of_lt_of_le q224' z4
 have q233' := (q226'.other ot4 q227' (by omega) z4)
 have q234' := Nat.lt_of_lt_of_le q227' z4
 refine wpOps_end ?_
 refine hK5 _ _ ?_
 refine wp_seq_k fun K6 hK6 => ?_
 refine region_dk 9 [(20, 0), (21, 1), (22, 2), (23, 3), (19, 4), (24, 5), (25, 6), (8, 7), (9, 8)] [[], [], [], [0, 1, 2], [0, 1, 2, 3], [0, 1, 2, 3, 4], [0, 1, 2, 3, 4], [0, 1, 2, 3, 4, 5], [0, 1, 2, 3, 4, 5, 6, 7]] (rel [is (.agg #[.int .i64 b.tab, .slice (some ⟨g214', 0, none⟩) (b.panels.length) (c217'), .int .i64 b.height, .slice (some ⟨g215', 0, none⟩) (b.top.length) (c218'), .slice (some ⟨g216', 0, none⟩) (b.bottom.length) (c219'), .int .i64 b.slot, .bool b.isOpen]),
   is (.agg #[.int .i64 lo, .int .i64 hi]),
   is (.int .i64 off),
   ab fun v W => ∃ x0, v = .tuple #[x0, .int .i64 0] ∧ IsPp L x0 W,
   ab fun v W => ∃ x0, v = .tuple #[x0, .int .i64 0] ∧ IsPp L x0 W,
   ab fun v W => IsPp L v W,
   is (.int .i64 0),
   ab fun v W => IsPp L v W,
   is (.int .i64 0)])
  ⟨is_k, is_k, is_k, ab_k fun v W W' hb ⟨x0, e, h0⟩ => ⟨x0, e, h0.below hb⟩, ab_k fun v W W' hb ⟨x0, e, h0⟩ => ⟨x0, e, h0.below hb⟩, ab_k fun v W W' hb h => h.below hb, is_k, ab_k fun v W W' hb h => h.below hb, is_k, trivial⟩
  ⟨fun f s W l m p q r j => opv rfl rfl (by simp [go_sem, j.e 7 k3_7, cb nb4 l 0, cb nb4 l 1, cb nb4 l 2, cb nb4 l 3, cb nb4 l 4, cb nb4 l 5, cb nb4 l 6]) rfl,
  fun f s W l m p q r j => opv rfl rfl (by simp [go_sem, j.e 4 k3_4, cb b4_1 l 0, cb b4_1 l 1]) rfl,
  fun f s W l m p q r j => opv rfl rfl (by simp [go_sem, j.e 2 k3_2]) rfl,
  fun f s W l m p q r j => opDo_call (args := #[.agg #[.int .i64 b.tab, .slice (some ⟨g214', 0, none⟩) (b.panels.length) (c217'), .int .i64 b.height, .slice (some ⟨g215', 0, none⟩) (b.top.length) (c218'), .slice (some ⟨g216', 0, none⟩) (b.bottom.length) (c219'), .int .i64 b.slot, .bool b.isOpen], .agg #[.int .i64 lo, .int .i64 hi], .int .i64 off]) rfl rfl (by simp [go_sem, j.e 20 (m 0 rfl), j.e 21 (m 1 rfl), j.e 22 (m 2 rfl)]) (inner_any _ b lo hi off W ⟨_, _, _, _, _, _, _, _, _, rfl, ((q229'.below l (Nat.le_refl _))), ((q231'.below l (Nat.le_refl _))), ((q233'.below l (Nat.le_refl _)))⟩ hof.1 hof.2) ((fun e W' h => by obtain ⟨a, n, c, e1, h1, h2⟩ := h; rw [hE] at e1; rw [if_pos hE, hL] at h1; exact ⟨_, e1, h2, _, rfl, isPp_of h1⟩)),
  fun f s W l m p q r j => opv (v := (f 3)) rfl rfl (by simp [go_sem, (j.at' 23 rfl : r.tmps[23]?.getD undef = f 3)] <;> rfl) (m 3 rfl),
  fun f s W l m p q r j => by obtain ⟨x4_0, d4, p4_0⟩ := (m 4 rfl); exact opv (v := x4_0) rfl rfl (by simp [go_sem, j.e 19 d4]) p4_0,
  fun f s W l m p q r j => by obtain ⟨x4_0, d4, p4_0⟩ := (m 4 rfl); exact opv rfl rfl (by simp [go_sem, j.e 19 d4]) rfl,
  fun f s W l m p q r j => opv (v := (f 5)) rfl rfl (by simp [go_sem, (j.at' 24 rfl : r.tmps[24]?.getD undef = f 5)] <;> rfl) (m 5 rfl),
  fun f s W l m p q r j => opv rfl rfl (by simp [go_sem, j.e 25 (m 6 rfl)]) rfl, trivial⟩ ?_
 intro f5 s5 W5 hB5 g5 hg5
 have fB5 := hB5.f fB4
 have z5 := hB5.below.size
 have b5_0 := hB5.b b4_0
 have b5_1 := hB5.b b4_1
 have b5_2 := hB5.b nb4
 have q238' := (q229'.bw hB5)
 have q239' := (hB5.lt q230')
 have q240' := (q231'.bw hB5)
 have q241' := (hB5.lt q232')
 have q242' := (q233'.bw hB5)
 have q243' := (hB5.lt q234')
 obtain ⟨a244', c245', r5_7, q246'⟩ := hB5.is 7
 have lim247' := Pp.lim q246'
 refine hK6 _ _ ?_
 have k5_2 := kt hg5 2 k3_2
 have k5_3 := kt hg5 3 k3_3
 have k5_4 := kt hg5 4 k3_4
 have k5_6 := kt hg5 6 k3_6
 have k5_7 := kt hg5 7 k3_7
 have k5_8 := kt hg5 8 r5_7
 have k5_9 := kt hg5 9 (hB5.is 8)
 refine wp_seq_k fun K7 hK7 => ?_
 refine wp_seq_k fun K8 hK8 => ?_
 refine region_dk 4 [(26, 0), (27, 1), (28, 2), (29, 3)] [[], [], [0, 1], [0, 1, 2]] (rel [is (.agg #[.int .i64 b.tab, .slice (some ⟨g214', 0, none⟩) (b.panels.length) (c217'), .int .i64 b.height, .slice (some ⟨g215', 0, none⟩) (b.top.length) (c218'), .slice (some ⟨g216', 0, none⟩) (b.bottom.length) (c219'), .int .i64 b.slot, .bool b.isOpen]),
   is (.agg #[.int .i64 b.tab, .slice (a1) (b.panels.length) (c1), .int .i64 b.height, .slice (a2) (b.top.length) (c2), .slice (a3) (b.bottom.length) (c3), .int .i64 b.slot, .bool b.isOpen]),
   is (.bool true),
   is (.bool false)])
  ⟨is_k, is_k, is_k, is_k, trivial⟩
  ⟨fun f s W l m p q r j => opv rfl rfl (by simp [go_sem, j.e 7 k5_7, cb b5_2 l 0, cb b5_2 l 1, cb b5_2 l 2, cb b5_2 l 3, cb b5_2 l 4, cb b5_2 l 5, cb b5_2 l 6]) rfl,
  fun f s W l m p q r j => opv rfl rfl (by simp [go_sem, j.e 3 k5_3, cb b5_0 l 0, cb b5_0 l 1, cb b5_0 l 2, cb b5_0 l 3, cb b5_0 l 4, cb b5_0 l 5, cb b5_0 l 6]) rfl,
  fun f s W l m p q r j => by have u := below_trans fB5 l; exact opDo_call (args := #[.agg #[.int .i64 b.tab, .slice (some ⟨g214', 0, none⟩) (b.panels.length) (c217'), .int .i64 b.height, .slice (some ⟨g215', 0, none⟩) (b.top.length) (c218'), .slice (some ⟨g216', 0, none⟩) (b.bottom.length) (c219'), .int .i64 b.slot, .bool b.isOpen], .agg #[.int .i64 b.tab, .slice (a1) (b.panels.length) (c1), .int .i64 b.height, .slice (a2) (b.top.length) (c2), .slice (a3) (b.bottom.length) (c3), .int .i64 b.slot, .bool b.isOpen]]) rfl rfl (by simp [go_sem, j.e 26 (m 0 rfl), j.e 27 (m 1 rfl)]) (same_blk (b := b) (d := b) ⟨_, _, _, _, _, _, _, _, _, rfl, ((q238'.below l (Nat.le_refl _))), ((q240'.below l (Nat.le_refl _))), ((q242'.below l (Nat.le_refl _)))⟩ ⟨_, _, _, _, _, _, _, _, _, rfl, (h1.below u (Nat.le_refl _)), (h2.below u (Nat.le_refl _)), (h3.below u (Nat.le_refl _))⟩) ((fun e W' h => by have h1 := h.1; rw [sameB_self] at h1; exact ⟨_, h1, h.2, rfl⟩)),
  fun f s W l m p q r j => opv rfl rfl (by simp [go_sem, j.e 28 (m 2 rfl)]) rfl, trivial⟩ ?_
 intro f6 s6 W6 hB6 g6 hg6
 have fB6 := hB6.f fB5
 have z6 := hB6.below.size
 have b6_0 := hB6.b b5_0
 have b6_1 := hB6.b b5_1
 have b6_2 := hB6.b b5_2
 have q248' := (q238'.bw hB6)
 have q249' := (hB6.lt q239')
 have q250' := (q240'.bw hB6)
 have q251' := (hB6.lt q241')
 have q252' := (q242'.bw hB6)
 have q253' := (hB6.lt q243')
 have q254' := (q246'.bw hB6)
 refine hK8 _ _ ?_
 have k6_2 := kt hg6 2 k5_2
 have k6_3 := kt hg6 3 k5_3
 have k6_4 := kt hg6 4 k5_4
 have k6_6 := kt hg6 6 k5_6
 have k6_8 := kt hg6 8 k5_8
 have k6_9 := kt hg6 9 k5_9
 have k6_29 := kt hg6 29 (hB6.is 3)
 refine wp_cond_false ((fr_eval rfl).trans k6_29) ?_
 refine wp_skip ?_
 refine hK7 _ _ ?_
 refine wp_seq_k fun K10 hK10 => ?_
 refine region_dk 3 [(30, 0), (31, 1), (10, 2)] [[], [0], [0, 1]] (rel [is (.agg #[.int .i64 b.tab, .slice (a1) (b.panels.length) (c1), .int .i64 b.height, .slice (a2) (b.top.length) (c2), .slice (a3) (b.bottom.length) (c3), .int .i64 b.slot, .bool b.isOpen]),
   is (.int .i64 0),
   is (.int .i64 0)])
  ⟨is_k, is_k, is_k, trivial⟩
  ⟨fun f s W l m p q r j => opv rfl rfl (by simp [go_sem, j.e 3 k6_3, cb b6_0 l 0, cb b6_0 l 1, cb b6_0 l 2, cb b6_0 l 3, cb b6_0 l 4, cb b6_0 l 5, cb b6_0 l 6]) rfl,
  fun f s W l m p q r j => by have u := below_trans fB6 l; exact opDo_call (args := #[.agg #[.int .i64 b.tab, .slice (a1) (b.panels.length) (c1), .int .i64 b.height, .slice (a2) (b.top.length) (c2), .slice (a3) (b.bottom.length) (c3), .int .i64 b.slot, .bool b.isOpen]]) rfl rfl (by simp [go_sem, j.e 30 (m 0 rfl)]) (refCheck_blk ⟨_, _, _, _, _, _, _, _, _, rfl, (h1.below u (Nat.le_refl _)), (h2.below u (Nat.le_refl _)), (h3.below u (Nat.le_refl _))⟩) ((fun e W' h => by have h1 := h.1; rw [refCheck_eq, hck] at h1; exact ⟨_, h1, h.2, rfl⟩)),
  fun f s W l m p q r j => opv rfl rfl (by simp [go_sem, j.e 31 (m 1 rfl)]) rfl, trivial⟩ ?_
 intro f7 s7 W7 hB7 g7 hg7
 have fB7 := hB7.f fB6
 have z7 := hB7.below.size
 have b7_0 := hB7.b b6_0
 have b7_1 := hB7.b b6_1
 have b7_2 := hB7.b b6_2
 have q255' := (q248'.bw hB7)
 have q256' := (hB7.lt q249')
 have q257' := (q250'.bw hB7)
 have q258' := (hB7.lt q251')
 have q259' := (q252'.bw hB7)
 have q260' := (hB7.lt q253')
 have q261' := (q254'.bw hB7)
 refine hK10 _ _ ?_
 have k7_2 := kt hg7 2 k6_2
 have k7_3 := kt hg7 3 k6_3
 have k7_4 := kt hg7 4 k6_4
 have k7_6 := kt hg7 6 k6_6
 have k7_8 := kt hg7 8 k6_8
 have k7_9 := kt hg7 9 k6_9
 have k7_10 := kt hg7 10 (hB7.is 2)
 refine wp_seq_k fun K11 hK11 => ?_
 refine wp_seq_k fun K12 hK12 => ?_
 refine region_dk 7 [(32, 0), (33, 1), (34, 2), (35, 3), (36, 4), (37, 5), (38, 6)] [[], [0], [0, 1], [0, 1, 2], [0, 1, 2, 3], [0, 1, 2, 3, 4], [0, 1, 2, 3, 4, 5]] (rel [is (.int .i64 0),
   is (.bool true),
   is (.bool true),
   gd (true) true (is (.agg #[.int .i64 lo, .int .i64 hi])),
   gd (true) true (is (.bool true)),
   gd (true) true (is (.bool false)),
   is (.bool false)])
  ⟨is_k, is_k, is_k, gd_k (is_k), gd_k (is_k), gd_k (is_k), is_k, trivial⟩
  ⟨fun f s W l m p q r j => opv rfl rfl (by simp [go_sem, j.e 10 k7_10]) rfl,
  fun f s W l m p q r j => opv rfl rfl (by simp [go_sem, j.e 32 (m 0 rfl)]) rfl,
  fun f s W l m p q r j => opv rfl rfl (by simp [go_sem, j.e 33 (m 1 rfl)]) rfl,
  fun f s W l m p q r j => gdo rfl rfl (j.says (d := 34) rfl rfl (m 2 rfl)) fun hgd0 => gv (by simp [go_sem, j.e 4 k7_4, cb b7_1 l 0, cb b7_1 l 1]) rfl,
  fun f s W l m p q r j => gdo rfl rfl (j.says (d := 34) rfl rfl (m 2 rfl)) fun hgd0 => wp_called (by simp [go_sem, j.e 35 ((m 3 rfl).1 hgd0)]) (spanR_any lo hi 1 10000 W) ((fun e W' h => by have h1 := h.1; rw [spanR_eq, hsp] at h1; exact ⟨_, h1, h.2, rfl⟩)),
  fun f s W l m p q r j => gdo rfl rfl (j.says (d := 34) rfl rfl (m 2 rfl)) fun hgd0 => gv (by simp [go_sem, j.e 36 ((m 4 rfl).1 hgd0)]) rfl,
  fun f s W l m p q r j => opk (c := true) rfl rfl (fun h => absurd h (by decide)) (fun _ => by simp [go_sem, j.e 34 (m 2 rfl), j.e 37 ((m 5 rfl).1 rfl)]), trivial⟩ ?_
 intro f8 s8 W8 hB8 g8 hg8
 have fB8 := hB8.f fB7
 have z8 := hB8.below.size
 have b8_0 := hB8.b b7_0
 have b8_1 := hB8.b b7_1
 have b8_2 := hB8.b b7_2
 have q262' := (q255'.bw hB8)
 have q263' := (hB8.lt q256')
 have q264' := (q257'.bw hB8)
 have q265' := (hB8.lt q258')
 have q266' := (q259'.bw hB8)
 have q267' := (hB8.lt q260')
 have q268' := (q261'.bw hB8)
 refine hK12 _ _ ?_
 have k8_2 := kt hg8 2 k7_2
 have k8_3 := kt hg8 3 k7_3
 have k8_4 := kt hg8 4 k7_4
 have k8_6 := kt hg8 6 k7_6
 have k8_8 := kt hg8 8 k7_8
 have k8_9 := kt hg8 9 k7_9
 have k8_10 := kt hg8 10 k7_10
 have k8_38 := kt hg8 38 (hB8.is 6)
 refine wp_cond_false ((fr_eval rfl).trans k8_38) ?_
 refine wp_skip ?_
 refine hK11 _ _ ?_
 refine wp_seq_k fun K14 hK14 => ?_
 refine wp_seq_k fun K15 hK15 => ?_
 refine region_dk 7 [(39, 0), (40, 1), (41, 2), (42, 3), (43, 4), (44, 5), (45, 6)] [[], [0], [0, 1], [0, 1, 2], [0, 1, 2, 3], [0, 1, 2, 3, 4], [0, 1, 2, 3, 4, 5]] (rel [is (.int .i64 0),
   is (.bool true),
   is (.bool true),
   gd (true) true (is (.int .i64 off)),
   gd (true) true (is (.bool true)),
   gd (true) true (is (.bool false)),
   is (.bool false)])
  ⟨is_k, is_k, is_k, gd_k (is_k), gd_k (is_k), gd_k (is_k), is_k, trivial⟩
  ⟨fun f s W l m p q r j => opv rfl rfl (by simp [go_sem, j.e 10 k8_10]) rfl,
  fun f s W l m p q r j => opv rfl rfl (by simp [go_sem, j.e 39 (m 0 rfl)]) rfl,
  fun f s W l m p q r j => opv rfl rfl (by simp [go_sem, j.e 40 (m 1 rfl)]) rfl,
  fun f s W l m p q r j => gdo rfl rfl (j.says (d := 41) rfl rfl (m 2 rfl)) fun hgd0 => gv (by simp [go_sem, j.e 2 k8_2]) rfl,
  fun f s W l m p q r j => gdo rfl rfl (j.says (d := 41) rfl rfl (m 2 rfl)) fun hgd0 => wp_called (by simp [go_sem, j.e 42 ((m 3 rfl).1 hgd0)]) (in_any off 0 5 W) ((fun e W' h => by have h1 := h.1; rw [hio] at h1; exact ⟨_, h1, h.2, rfl⟩)),
  fun f s W l m p q r j => gdo rfl rfl (j.says (d := 41) rfl rfl (m 2 rfl)) fun hgd0 => gv (by simp [go_sem, j.e 43 ((m 4 rfl).1 hgd0)]) rfl,
  fun f s W l m p q r j => opk (c := true) rfl rfl (fun h => absurd h (by decide)) (fun _ => by simp [go_sem, j.e 41 (m 2 rfl), j.e 44 ((m 5 rfl).1 rfl)]), trivial⟩ ?_
 intro f9 s9 W9 hB9 g9 hg9
 have fB9 := hB9.f fB8
 have z9 := hB9.below.size
 have b9_0 := hB9.b b8_0
 have b9_1 := hB9.b b8_1
 have b9_2 := hB9.b b8_2
 have q269' := (q262'.bw hB9)
 have q270' := (hB9.lt q263')
 have q271' := (q264'.bw hB9)
 have q272' := (hB9.lt q265')
 have q273' := (q266'.bw hB9)
 have q274' := (hB9.lt q267')
 have q275' := (q268'.bw hB9)
 refine hK15 _ _ ?_
 have k9_2 := kt hg9 2 k8_2
 have k9_3 := kt hg9 3 k8_3
 have k9_4 := kt hg9 4 k8_4
 have k9_6 := kt hg9 6 k8_6
 have k9_8 := kt hg9 8 k8_8
 have k9_9 := kt hg9 9 k8_9
 have k9_10 := kt hg9 10 k8_10
 have k9_45 := kt hg9 45 (hB9.is 6)
 refine wp_cond_false ((fr_eval rfl).trans k9_45) ?_
 refine wp_skip ?_
 refine hK14 _ _ ?_
 refine wp_seq_k fun K17 hK17 => ?_
 refine wp_seq_k fun K18 hK18 => ?_
 refine region_dk 2 [(46, 0), (47, 1)] [[], [0]] (rel [is (.int .i64 0),
   is (.bool false)])
  ⟨is_k, is_k, trivial⟩
  ⟨fun f s W l m p q r j => opv rfl rfl (by simp [go_sem, j.e 10 k9_10]) rfl,
  fun f s W l m p q r j => opv rfl rfl (by simp [go_sem, j.e 46 (m 0 rfl)]) rfl, trivial⟩ ?_
 intro f10 s10 W10 hB10 g10 hg10
 have fB10 := hB10.f fB9
 have z10 := hB10.below.size
 have b10_0 := hB10.b b9_0
 have b10_1 := hB10.b b9_1
 have b10_2 := hB10.b b9_2
 have q276' := (q269'.bw hB10)
 have q277' := (hB10.lt q270')
 have q278' := (q271'.bw hB10)
 have q279' := (hB10.lt q272')
 have q280' := (q273'.bw hB10)
 have q281' := (hB10.lt q274')
 have q282' := (q275'.bw hB10)
 refine hK18 _ _ ?_
 have k10_2 := kt hg10 2 k9_2
 have k10_3 := kt hg10 3 k9_3
 have k10_4 := kt hg10 4 k9_4
 have k10_6 := kt hg10 6 k9_6
 have k10_8 := kt hg10 8 k9_8
 have k10_9 := kt hg10 9 k9_9
 have k10_10 := kt hg10 10 k9_10
 have k10_47 := kt hg10 47 (hB10.is 1)
 refine wp_cond_false ((fr_eval rfl).trans k10_47) ?_
 refine wp_skip ?_
 refine hK17 _ _ ?_
 refine wp_seq_k fun K20 hK20 => ?_
 refine wp_seq_k fun K21 hK21 => ?_
 refine region_dk 7 [(59, 0), (60, 1), (61, 2), (62, 3), (63, 4), (64, 5), (65, 6)] [[], [0], [0, 1], [0, 1, 2], [0, 1, 2, 3], [0, 1, 2, 3, 4], [0, 1, 2, 3, 4, 5]] (rel [is (.int .i64 0),
   is (.bool false),
   is (.bool false),
   gd (false) false (is (.slice (a244') (L.length) (c245'))),
   gd (false) false (is (.int .i64 ((L.length : Int)))),
   gd (false) false (is (.bool false)),
   is (.bool false)])
  ⟨is_k, is_k, is_k, gd_k (is_k), gd_k (is_k), gd_k (is_k), is_k, trivial⟩
  ⟨fun f s W l m p q r j => opv rfl rfl (by simp [go_sem, j.e 9 k10_9]) rfl,
  fun f s W l m p q r j => opv rfl rfl (by simp [go_sem, j.e 59 (m 0 rfl)]) rfl,
  fun f s W l m p q r j => opv rfl rfl (by simp [go_sem, j.e 60 (m 1 rfl)]) rfl,
  fun f s W l m p q r j => gdo rfl rfl (j.says (d := 61) rfl rfl (m 2 rfl)) fun hgd0 => gv (by simp [go_sem, j.e 8 k10_8]) rfl,
  fun f s W l m p q r j => gdo rfl rfl (j.says (d := 61) rfl rfl (m 2 rfl)) fun hgd0 => gv (by simp [go_sem, j.e 62 ((m 3 rfl).1 hgd0)]) rfl,
  fun f s W l m p q r j => gdo rfl rfl (j.says (d := 61) rfl rfl (m 2 rfl)) fun hgd0 => gv (by simp [go_sem, j.e 63 ((m 4 rfl).1 hgd0), hL9']) rfl,
  fun f s W l m p q r j => opk (c := false) rfl rfl (fun _ => by simp [go_sem, j.e 61 (m 2 rfl), j.e 64 ((m 5 rfl).1 rfl)]) (fun h => absurd h (by decide)), trivial⟩ ?_
 intro f11 s11 W11 hB11 g11 hg11
 have fB11 := hB11.f fB10
 have z11 := hB11.below.size
 have b11_0 := hB11.b b10_0
 have b11_1 := hB11.b b10_1
 have b11_2 := hB11.b b10_2
 have q283' := (q276'.bw hB11)
 have q284' := (hB11.lt q277')
 have q285' := (q278'.bw hB11)
 have q286' := (hB11.lt q279')
 have q287' := (q280'.bw hB11)
 have q288' := (hB11.lt q281')
 have q289' := (q282'.bw hB11)
 refine hK21 _ _ ?_
 have k11_2 := kt hg11 2 k10_2
 have k11_3 := kt hg11 3 k10_3
 have k11_4 := kt hg11 4 k10_4
 have k11_6 := kt hg11 6 k10_6
 have k11_8 := kt hg11 8 k10_8
 have k11_65 := kt hg11 65 (hB11.is 6)
 refine wp_cond_false ((fr_eval rfl).trans k11_65) ?_
 refine wp_skip ?_
 refine hK20 _ _ ?_
 refine wp_seq_k fun K23 hK23 => ?_
 refine wp_seq_k fun K24 hK24 => ?_
 refine region_dk 1 [(11, 0)] [[]] (rel [is (.int .i64 0)])
  ⟨is_k, trivial⟩
  ⟨fun f s W l m p q r j => opv rfl rfl (by simp [go_sem]) rfl, trivial⟩ ?_
 intro f12 s12 W12 hB12 g12 hg12
 have fB12 := hB12.f fB11
 have z12 := hB12.below.size
 have b12_0 := hB12.b b11_0
 have b12_1 := hB12.b b11_1
 have b12_2 := hB12.b b11_2
 have q290' := (q283'.bw hB12)
 have q291' := (hB12.lt q284')
 have q292' := (q285'.bw hB12)
 have q293' := (hB12.lt q286')
 have q294' := (q287'.bw hB12)
 have q295' := (hB12.lt q288')
 have q296' := (q289'.bw hB12)
 refine hK24 _ _ ?_
 have k12_2 := kt hg12 2 k11_2
 have k12_3 := kt hg12 3 k11_3
 have k12_4 := kt hg12 4 k11_4
 have k12_6 := kt hg12 6 k11_6
 have k12_8 := kt hg12 8 k11_8
 have k12_11 := kt hg12 11 (hB12.is 0)
 refine wp_block ?_
 refine wp_loop_n (fun m_ a_ W_ => ∃ g_ : Nat → Value, a_ = fr 94 g_ ∧ (∃ k : Nat, m_ = 9 - k ∧ g_ 2 = .int .i64 off ∧ g_ 3 = .pointer (some ⟨(s1 0), 0, none⟩) ∧ g_ 4 = .pointer (some ⟨(s1 1), 0, none⟩) ∧ g_ 6 = .bool false ∧ g_ 8 = .slice (a244') (L.length) (c245') ∧ g_ 11 = .int .i64 ((k : Int)) ∧ Below w.heap.size w W_ ∧ W12.heap.size ≤ W_.heap.size ∧ W_.heap[(s1 0)]? = some (.cells #[.int .i64 b.tab, .slice (a1) (b.panels.length) (c1), .int .i64 b.height, .slice (a2) (b.top.length) (c2), .slice (a3) (b.bottom.length) (c3), .int .i64 b.slot, .bool b.isOpen] 24 (0, 0)) ∧ W_.heap[(s1 1)]? = some (.cells #[.int .i64 lo, .int .i64 hi] 26 (0, 0)) ∧ W_.heap[(s3 2)]? = some (.cells #[.int .i64 b.tab, .slice (some ⟨g214', 0, none⟩) (b.panels.length) (c217'), .int .i64 b.height, .slice (some ⟨g215', 0, none⟩) (b.top.length) (c218'), .slice (some ⟨g216', 0, none⟩) (b.bottom.length) (c219'), .int .i64 b.slot, .bool b.isOpen] 24 (0, 0)) ∧ Ii W_ (some ⟨g214', 0, none⟩) (b).panels.length c217' (b).panels ∧ g214' < W_.heap.size ∧ Ii W_ (some ⟨g215', 0, none⟩) (b).top.length c218' (b).top ∧ g215' < W_.heap.size ∧ Ii W_ (some ⟨g216', 0, none⟩) (b).bottom.length c219' (b).bottom ∧ g216' < W_.heap.size ∧ Pp W_ a244' L.length c245' L ∧ (k ≤ 9))) ⟨_, g12, rfl, 0, rfl, k12_2, k12_3, k12_4, k12_6, k12_8, k12_11.trans (by rfl), fB12, Nat.le_refl _, b12_0, b12_1, b12_2, q290', q291', q292', q293', q294', q295', q296', (by omega)⟩ ?_
 rintro _ _ W_297 ⟨g_297, rfl, k, rfl, k_297_2, k_297_3, k_297_4, k_297_6, k_297_8, k_297_11, fB_297, z_297, b_297_0, b_297_1, b_297_2, q298', q299', q300', q301', q302', q303', q304', lp0⟩
 refine wp_seq_k fun K25 hK25 => ?_
 refine wp_seq_k fun K26 hK26 => ?_
 refine region_dk 2 [(66, 0), (67, 1)] [[], [0]] (rel [is (.int .i64 ((k : Int))),
   is (.bool (decide ((k : Int) < 9)))])
  ⟨is_k, is_k, trivial⟩
  ⟨fun f s W l m p q r j => opv rfl rfl (by simp [go_sem, j.e 11 k_297_11]) rfl,
  fun f s W l m p q r j => opv rfl rfl (by simp [go_sem, j.e 66 (m 0 rfl)]) rfl, trivial⟩ ?_
 intro f13 s13 W13 hB13 g13 hg13
 have fB13 := hB13.f fB_297
 have z13 := hB13.below.size
 have b13_0 := hB13.b b_297_0
 have b13_1 := hB13.b b_297_1
 have b13_2 := hB13.b b_297_2
 have q305' := (q298'.bw hB13)
 have q306' := (hB13.lt q299')
 have q307' := (q300'.bw hB13)
 have q308' := (hB13.lt q301')
 have q309' := (q302'.bw hB13)
 have q310' := (hB13.lt q303')
 have q311' := (q304'.bw hB13)
 refine hK26 _ _ ?_
 have k13_2 := kt hg13 2 k_297_2
 have k13_3 := kt hg13 3 k_297_3
 have k13_4 := kt hg13 4 k_297_4
 have k13_6 := kt hg13 6 k_297_6
 have k13_8 := kt hg13 8 k_297_8
 have k13_11 := kt hg13 11 k_297_11
 have k13_67 := kt hg13 67 (hB13.is 1)
 refine wp_cond_split (t := decide ((k : Int) < 9)) ((fr_eval rfl).trans k13_67) (fun hc27 => ?_) (fun hc27 => ?_)
 ·
  have hc27' := hc27; try simp only [ba] at hc27'
  have hk9 : k < 9 := by omega
  have lik := Nat.not_le.2 (show k < L.length by rw [hL9]; omega)
  have hwd := wide_all hck hk9 hio1 hio2 hs1 hs2 hs3
  obtain ⟨bq, oq, hab⟩ := q311'.at' (by rw [hL9]; omega)
  refine wp_skip ?_
  refine hK25 _ _ ?_
  refine wp_seq_k fun K28 hK28 => ?_
  refine wp_block ?_
  refine wp_seq_k fun K29 hK29 => ?_
  refine region_dk 2 [(70, 0), (12, 1)] [[], [], [0, 1]] (rel [is (.agg #[.int .i64 1099511627776, .int .i64 (-1099511627776)]),
   bx 1 #[.int .i64 0, .int .i64 0] 26])
   ⟨is_k, bx_k, trivial⟩
   ⟨fun f s W l m p q r j => opc rfl rfl (by simp [go_sem]) (span_any (1099511627776) (-1099511627776) W),
  fun f s W l m p q r j => opb rfl rfl (by simp [go_sem]), trivial⟩ ?_
  intro f14 s14 W14 hB14 g14 hg14
  have fB14 := hB14.f fB13
  have z14 := hB14.below.size
  have b14_0 := hB14.b b13_0
  have b14_1 := hB14.b b13_1
  have b14_2 := hB14.b b13_2
  have q312' := (q305'.bw hB14)
  have q313' := (hB14.lt q306')
  have q314' := (q307'.bw hB14)
  have q315' := (hB14.lt q308')
  have q316' := (q309'.bw hB14)
  have q317' := (hB14.lt q310')
  have q318' := (q311'.bw hB14)
  obtain ⟨r14_1, br14_1⟩ := hB14.is 1
  have lr14_1 := hB14.lr 1 br14_1
  have k14_2 := kt hg14 2 k13_2
  have k14_3 := kt hg14 3 k13_3
  have k14_4 := kt hg14 4 k13_4
  have k14_6 := kt hg14 6 k13_6
  have k14_8 := kt hg14 8 k13_8
  have k14_11 := kt hg14 11 k13_11
  have k14_70 := kt hg14 70 (hB14.is 0)
  have k14_12 := kt hg14 12 r14_1
  obtain ⟨W15, hW15⟩ : ∃ W', W' = W14.setRow (s14 1) #[.int .i64 1099511627776, .int .i64 (-1099511627776)] := ⟨_, rfl⟩
  refine tail_skip (o := _) rfl ⟨rfl, rfl⟩ (run_seg hW15 (fr_ev k14_12) (fr_ev k14_70) br14_1 rfl rfl rfl rfl) ?_
  obtain ⟨fB15, nb15, ot15, z15⟩ := seg_facts hW15 fB14 br14_1 (by omega)
  clear hW15
  have b15_0 := ot15 _ _ (by omega) b14_0
  have b15_1 := ot15 _ _ (by omega) b14_1
  have b15_2 := ot15 _ _ (by omega) b14_2
  have q319' := (q312'.other ot15 q313' (by omega) z15)
  have q320' := Nat.lt_of_lt_of_le q313' z15
  have q321' := (q314'.other ot15 q315' (by omega) z15)
  have q322' := Nat.lt_of_lt_of_le q315' z15
  have q323' := (q316'.other ot15 q317' (by omega) z15)
  have q324' := Nat.lt_of_lt_of_le q317' z15
  have q325' := (q318'.otherA ot15 (fun g o e hx => by have := lim247' g o e hx; omega) z15)
  refine wpOps_end ?_
  refine hK29 _ _ ?_
  refine wp_seq_k fun K30 hK30 => ?_
  refine wp_seq_k fun K31 hK31 => ?_
  refine region_dk 1 [(13, 0)] [[]] (rel [is (.int .i64 0)])
   ⟨is_k, trivial⟩
   ⟨fun f s W l m p q r j => opv rfl rfl (by simp [go_sem]) rfl, trivial⟩ ?_
  intro f16 s16 W16 hB16 g16 hg16
  have fB16 := hB16.f fB15
  have z16 := hB16.below.size
  have b16_0 := hB16.b b15_0
  have b16_1 := hB16.b b15_1
  have b16_2 := hB16.b b15_2
  have b16_3 := hB16.b nb15
  have q326' := (q319'.bw hB16)
  have q327' := (hB16.lt q320')
  have q328' := (q321'.bw hB16)
  have q329' := (hB16.lt q322')
  have q330' := (q323'.bw hB16)
  have q331' := (hB16.lt q324')
  have q332' := (q325'.bw hB16)
  refine hK31 _ _ ?_
  have k16_2 := kt hg16 2 k14_2
  have k16_3 := kt hg16 3 k14_3
  have k16_4 := kt hg16 4 k14_4
  have k16_6 := kt hg16 6 k14_6
  have k16_8 := kt hg16 8 k14_8
  have k16_11 := kt hg16 11 k14_11
  have k16_12 := kt hg16 12 k14_12
  have k16_13 := kt hg16 13 (hB16.is 0)
  refine wp_block ?_
  refine wp_loop_rounds 3 ?_
  rw [rounds_succ]
  refine wp_seq_k fun K32 hK32 => ?_
  refine wp_seq_k fun K33 hK33 => ?_
  refine region_dk 2 [(71, 0), (72, 1)] [[], [0]] (rel [is (.int .i64 0),
   is (.bool true)])
   ⟨is_k, is_k, trivial⟩
   ⟨fun f s W l m p q r j => opv rfl rfl (by simp [go_sem, j.e 13 k16_13]) rfl,
  fun f s W l m p q r j => opv rfl rfl (by simp [go_sem, j.e 71 (m 0 rfl)]) rfl, trivial⟩ ?_
  intro f17 s17 W17 hB17 g17 hg17
  have fB17 := hB17.f fB16
  have z17 := hB17.below.size
  have b17_0 := hB17.b b16_0
  have b17_1 := hB17.b b16_1
  have b17_2 := hB17.b b16_2
  have b17_3 := hB17.b b16_3
  have q333' := (q326'.bw hB17)
  have q334' := (hB17.lt q327')
  have q335' := (q328'.bw hB17)
  have q336' := (hB17.lt q329')
  have q337' := (q330'.bw hB17)
  have q338' := (hB17.lt q331')
  have q339' := (q332'.bw hB17)
  refine hK33 _ _ ?_
  have k17_2 := kt hg17 2 k16_2
  have k17_3 := kt hg17 3 k16_3
  have k17_4 := kt hg17 4 k16_4
  have k17_6 := kt hg17 6 k16_6
  have k17_8 := kt hg17 8 k16_8
  have k17_11 := kt hg17 11 k16_11
  have k17_12 := kt hg17 12 k16_12
  have k17_13 := kt hg17 13 k16_13
  have k17_72 := kt hg17 72 (hB17.is 1)
  refine wp_cond_true ((fr_eval rfl).trans k17_72) ?_
  refine wp_skip ?_
  refine hK32 _ _ ?_
  refine wp_seq_k fun K35 hK35 => ?_
  refine wp_block ?_
  refine region_dk 12 [(75, 0), (76, 1), (77, 2), (78, 3), (79, 4), (80, 5), (81, 6), (82, 7), (83, 8), (84, 9), (85, 10), (86, 11)] [[], [], [], [], [3], [], [5], [3, 4, 5, 6], [], [3, 4, 5, 6, 7, 8], [], [0, 1, 2, 3, 4, 5, 6, 7, 8, 9, 10], [0, 1, 2, 3, 4, 5, 6, 7, 8, 9, 10, 11]] (rel [is (.agg #[.int .i64 1099511627776, .int .i64 (-1099511627776)]),
   is (.agg #[.int .i64 b.tab, .slice (a1) (b.panels.length) (c1), .int .i64 b.height, .slice (a2) (b.top.length) (c2), .slice (a3) (b.bottom.length) (c3), .int .i64 b.slot, .bool b.isOpen]),
   is (.int .i64 ((k : Int))),
   is (.pointer (some ⟨(s1 1), 0, none⟩)),
   is (.int .i64 lo),
   is (.pointer (some ⟨(s1 1), 1, none⟩)),
   is (.int .i64 hi),
   is (.agg #[.int .i64 lo, .int .i64 hi]),
   is (.int .i64 0),
   is (.int .i64 lo),
   is (.int .i64 off),
   is (.agg #[.int .i64 ((widR b k lo off (1099511627776, -1099511627776)).1), .int .i64 ((widR b k lo off (1099511627776, -1099511627776)).2)])])
   ⟨is_k, is_k, is_k, is_k, is_k, is_k, is_k, is_k, is_k, is_k, is_k, is_k, trivial⟩
   ⟨fun f s W l m p q r j => opv rfl rfl (by simp [go_sem, j.e 12 k17_12, cb b17_3 l 0, cb b17_3 l 1]) rfl,
  fun f s W l m p q r j => opv rfl rfl (by simp [go_sem, j.e 3 k17_3, cb b17_0 l 0, cb b17_0 l 1, cb b17_0 l 2, cb b17_0 l 3, cb b17_0 l 4, cb b17_0 l 5, cb b17_0 l 6]) rfl,
  fun f s W l m p q r j => opv rfl rfl (by simp [go_sem, j.e 11 k17_11]) rfl,
  fun f s W l m p q r j => opv rfl rfl (by simp [go_sem, j.e 4 k17_4]) rfl,
  fun f s W l m p q r j => opv rfl rfl (by simp [go_sem, j.e 78 (m 3 rfl), cb b17_1 l 0]) rfl,
  fun f s W l m p q r j => opv rfl rfl (by simp [go_sem, j.e 4 k17_4]) rfl,
  fun f s W l m p q r j => opv rfl rfl (by simp [go_sem, j.e 80 (m 5 rfl), cb b17_1 l 1]) rfl,
  fun f s W l m p q r j => opv rfl rfl (by simp [go_sem, j.e 79 (m 4 rfl), j.e 81 (m 6 rfl)]) rfl,
  fun f s W l m p q r j => opv rfl rfl (by simp [go_sem, j.e 13 k17_13]) rfl,
  fun f s W l m p q r j => by have ix_ : ∀ W : World, (Instr.index 40 (.agg #[.int .i64 lo, .int .i64 hi]) (.int .i64 0)).run Tryz.prog W = .ok (.int .i64 lo) W := fun W => (by kernel_rfl); exact opv rfl rfl (by simp [go_sem, j.e 82 (m 7 rfl), j.e 83 (m 8 rfl), ix_]) rfl,
  fun f s W l m p q r j => opv rfl rfl (by simp [go_sem, j.e 2 k17_2]) rfl,
  fun f s W l m p q r j => by have u := below_trans fB17 l; exact opc rfl rfl (by simp [go_sem, j.e 75 (m 0 rfl), j.e 76 (m 1 rfl), j.e 77 (m 2 rfl), j.e 84 (m 9 rfl), j.e 85 (m 10 rfl)]) (widened_any a1 a2 a3 c1 c2 c3 b k lo off (1099511627776, -1099511627776) W (h1.below u (Nat.le_refl _)) (h2.below u (Nat.le_refl _)) (h3.below u (Nat.le_refl _)) hck (by omega) (by omega) ⟨hio1, hio2⟩), trivial⟩ ?_
  intro f18 s18 W18 hB18 g18 hg18
  have fB18 := hB18.f fB17
  have z18 := hB18.below.size
  have b18_0 := hB18.b b17_0
  have b18_1 := hB18.b b17_1
  have b18_2 := hB18.b b17_2
  have b18_3 := hB18.b b17_3
  have q340' := (q333'.bw hB18)
  have q341' := (hB18.lt q334')
  have q342' := (q335'.bw hB18)
  have q343' := (hB18.lt q336')
  have q344' := (q337'.bw hB18)
  have q345' := (hB18.lt q338')
  have q346' := (q339'.bw hB18)
  have k18_2 := kt hg18 2 k17_2
  have k18_3 := kt hg18 3 k17_3
  have k18_4 := kt hg18 4 k17_4
  have k18_6 := kt hg18 6 k17_6
  have k18_8 := kt hg18 8 k17_8
  have k18_11 := kt hg18 11 k17_11
  have k18_12 := kt hg18 12 k17_12
  have k18_13 := kt hg18 13 k17_13
  have k18_72 := kt hg18 72 k17_72
  have k18_86 := kt hg18 86 (hB18.is 11)
  obtain ⟨W19, hW19⟩ : ∃ W', W' = W18.setRow (s14 1) #[.int .i64 ((widR b k lo off (1099511627776, -1099511627776)).1), .int .i64 ((widR b k lo off (1099511627776, -1099511627776)).2)] := ⟨_, rfl⟩
  refine tail_skip (o := _) rfl ⟨rfl, rfl⟩ (run_seg hW19 (fr_ev k18_12) (fr_ev k18_86) b18_3 rfl rfl rfl rfl) ?_
  obtain ⟨fB19, nb19, ot19, z19⟩ := seg_facts hW19 fB18 b18_3 (by omega)
  clear hW19
  have b19_0 := ot19 _ _ (by omega) b18_0
  have b19_1 := ot19 _ _ (by omega) b18_1
  have b19_2 := ot19 _ _ (by omega) b18_2
  have q347' := (q340'.other ot19 q341' (by omega) z19)
  have q348' := Nat.lt_of_lt_of_le q341' z19
  have q349' := (q342'.other ot19 q343' (by omega) z19)
  have q350' := Nat.lt_of_lt_of_le q343' z19
  have q351' := (q344'.other ot19 q345' (by omega) z19)
  have q352' := Nat.lt_of_lt_of_le q345' z19
  have q353' := (q346'.otherA ot19 (fun g o e hx => by have := lim247' g o e hx; omega) z19)
  refine wpOps_end ?_
  refine inBlock_normal ?_
  refine hK35 _ _ ?_
  refine region_dk 3 [(73, 0), (74, 1), (13, 2)] [[], [0], [0, 1]] (rel [is (.int .i64 0),
   is (.int .i64 1),
   is (.int .i64 1)])
   ⟨is_k, is_k, is_k, trivial⟩
   ⟨fun f s W l m p q r j => opv rfl rfl (by simp [go_sem, j.e 13 ((q 2 13 rfl rfl).trans k18_13)]) rfl,
  fun f s W l m p q r j => opv rfl rfl (by simp [go_sem, j.e 73 (m 0 rfl), IntWalk.i64_in (1) (by omega)]) rfl,
  fun f s W l m p q r j => opv rfl rfl (by simp [go_sem, j.e 74 (m 1 rfl)]) rfl, trivial⟩ ?_
  intro f20 s20 W20 hB20 g20 hg20
  have fB20 := hB20.f fB19
  have z20 := hB20.below.size
  have b20_0 := hB20.b b19_0
  have b20_1 := hB20.b b19_1
  have b20_2 := hB20.b b19_2
  have b20_3 := hB20.b nb19
  have q354' := (q347'.bw hB20)
  have q355' := (hB20.lt q348')
  have q356' := (q349'.bw hB20)
  have q357' := (hB20.lt q350')
  have q358' := (q351'.bw hB20)
  have q359' := (hB20.lt q352')
  have q360' := (q353'.bw hB20)
  refine wpOps_end ?_
  have k20_2 := kt hg20 2 k18_2
  have k20_3 := kt hg20 3 k18_3
  have k20_4 := kt hg20 4 k18_4
  have k20_6 := kt hg20 6 k18_6
  have k20_8 := kt hg20 8 k18_8
  have k20_11 := kt hg20 11 k18_11
  have k20_12 := kt hg20 12 k18_12
  have k20_72 := kt hg20 72 k18_72
  have k20_86 := kt hg20 86 k18_86
  have k20_13 := kt hg20 13 (hB20.is 2)
  refine then_normal ?_
  rw [rounds_succ]
  refine wp_seq_k fun K36 hK36 => ?_
  refine wp_seq_k fun K37 hK37 => ?_
  refine region_dk 2 [(71, 0), (72, 1)] [[], [0]] (rel [is (.int .i64 1),
   is (.bool true)])
   ⟨is_k, is_k, trivial⟩
   ⟨fun f s W l m p q r j => opv rfl rfl (by simp [go_sem, j.e 13 k20_13]) rfl,
  fun f s W l m p q r j => opv rfl rfl (by simp [go_sem, j.e 71 (m 0 rfl)]) rfl, trivial⟩ ?_
  intro f21 s21 W21 hB21 g21 hg21
  have fB21 := hB21.f fB20
  have z21 := hB21.below.size
  have b21_0 := hB21.b b20_0
  have b21_1 := hB21.b b20_1
  have b21_2 := hB21.b b20_2
  have b21_3 := hB21.b b20_3
  have q361' := (q354'.bw hB21)
  have q362' := (hB21.lt q355')
  have q363' := (q356'.bw hB21)
  have q364' := (hB21.lt q357')
  have q365' := (q358'.bw hB21)
  have q366' := (hB21.lt q359')
  have q367' := (q360'.bw hB21)
  refine hK37 _ _ ?_
  have k21_2 := kt hg21 2 k20_2
  have k21_3 := kt hg21 3 k20_3
  have k21_4 := kt hg21 4 k20_4
  have k21_6 := kt hg21 6 k20_6
  have k21_8 := kt hg21 8 k20_8
  have k21_11 := kt hg21 11 k20_11
  have k21_12 := kt hg21 12 k20_12
  have k21_86 := kt hg21 86 k20_86
  have k21_13 := kt hg21 13 k20_13
  have k21_72 := kt hg21 72 (hB21.is 1)
  refine wp_cond_true ((fr_eval rfl).trans k21_72) ?_
  refine wp_skip ?_
  refine hK36 _ _ ?_
  refine wp_seq_k fun K39 hK39 => ?_
  refine wp_block ?_
  refine region_dk 12 [(75, 0), (76, 1), (77, 2), (78, 3), (79, 4), (80, 5), (81, 6), (82, 7), (83, 8), (84, 9), (85, 10), (86, 11)] [[], [], [], [], [3], [], [5], [3, 4, 5, 6], [], [3, 4, 5, 6, 7, 8], [], [0, 1, 2, 3, 4, 5, 6, 7, 8, 9, 10], [0, 1, 2, 3, 4, 5, 6, 7, 8, 9, 10, 11]] (rel [is (.agg #[.int .i64 ((widR b k lo off (1099511627776, -1099511627776)).1), .int .i64 ((widR b k lo off (1099511627776, -1099511627776)).2)]),
   is (.agg #[.int .i64 b.tab, .slice (a1) (b.panels.length) (c1), .int .i64 b.height, .slice (a2) (b.top.length) (c2), .slice (a3) (b.bottom.length) (c3), .int .i64 b.slot, .bool b.isOpen]),
   is (.int .i64 ((k : Int))),
   is (.pointer (some ⟨(s1 1), 0, none⟩)),
   is (.int .i64 lo),
   is (.pointer (some ⟨(s1 1), 1, none⟩)),
   is (.int .i64 hi),
   is (.agg #[.int .i64 lo, .int .i64 hi]),
   is (.int .i64 1),
   is (.int .i64 hi),
   is (.int .i64 off),
   is (.agg #[.int .i64 ((widR b k hi off (widR b k lo off (1099511627776, -1099511627776))).1), .int .i64 ((widR b k hi off (widR b k lo off (1099511627776, -1099511627776))).2)])])
   ⟨is_k, is_k, is_k, is_k, is_k, is_k, is_k, is_k, is_k, is_k, is_k, is_k, trivial⟩
   ⟨fun f s W l m p q r j => opv rfl rfl (by simp [go_sem, j.e 12 k21_12, cb b21_3 l 0, cb b21_3 l 1]) rfl,
  fun f s W l m p q r j => opv rfl rfl (by simp [go_sem, j.e 3 k21_3, cb b21_0 l 0, cb b21_0 l 1, cb b21_0 l 2, cb b21_0 l 3, cb b21_0 l 4, cb b21_0 l 5, cb b21_0 l 6]) rfl,
  fun f s W l m p q r j => opv rfl rfl (by simp [go_sem, j.e 11 k21_11]) rfl,
  fun f s W l m p q r j => opv rfl rfl (by simp [go_sem, j.e 4 k21_4]) rfl,
  fun f s W l m p q r j => opv rfl rfl (by simp [go_sem, j.e 78 (m 3 rfl), cb b21_1 l 0]) rfl,
  fun f s W l m p q r j => opv rfl rfl (by simp [go_sem, j.e 4 k21_4]) rfl,
  fun f s W l m p q r j => opv rfl rfl (by simp [go_sem, j.e 80 (m 5 rfl), cb b21_1 l 1]) rfl,
  fun f s W l m p q r j => opv rfl rfl (by simp [go_sem, j.e 79 (m 4 rfl), j.e 81 (m 6 rfl)]) rfl,
  fun f s W l m p q r j => opv rfl rfl (by simp [go_sem, j.e 13 k21_13]) rfl,
  fun f s W l m p q r j => by have ix_ : ∀ W : World, (Instr.index 40 (.agg #[.int .i64 lo, .int .i64 hi]) (.int .i64 1)).run Tryz.prog W = .ok (.int .i64 hi) W := fun W => (by kernel_rfl); exact opv rfl rfl (by simp [go_sem, j.e 82 (m 7 rfl), j.e 83 (m 8 rfl), ix_]) rfl,
  fun f s W l m p q r j => opv rfl rfl (by simp [go_sem, j.e 2 k21_2]) rfl,
  fun f s W l m p q r j => by have u := below_trans fB21 l; exact opc rfl rfl (by simp [go_sem, j.e 75 (m 0 rfl), j.e 76 (m 1 rfl), j.e 77 (m 2 rfl), j.e 84 (m 9 rfl), j.e 85 (m 10 rfl)]) (widened_any a1 a2 a3 c1 c2 c3 b k hi off (widR b k lo off (1099511627776, -1099511627776)) W (h1.below u (Nat.le_refl _)) (h2.below u (Nat.le_refl _)) (h3.below u (Nat.le_refl _)) hck (by omega) (by omega) ⟨hio1, hio2⟩), trivial⟩ ?_
  intro f22 s22 W22 hB22 g22 hg22
  have fB22 := hB22.f fB21
  have z22 := hB22.below.size
  have b22_0 := hB22.b b21_0
  have b22_1 := hB22.b b21_1
  have b22_2 := hB22.b b21_2
  have b22_3 := hB22.b b21_3
  have q368' := (q361'.bw hB22)
  have q369' := (hB22.lt q362')
  have q370' := (q363'.bw hB22)
  have q371' := (hB22.lt q364')
  have q372' := (q365'.bw hB22)
  have q373' := (hB22.lt q366')
  have q374' := (q367'.bw hB22)
  have k22_2 := kt hg22 2 k21_2
  have k22_3 := kt hg22 3 k21_3
  have k22_4 := kt hg22 4 k21_4
  have k22_6 := kt hg22 6 k21_6
  have k22_8 := kt hg22 8 k21_8
  have k22_11 := kt hg22 11 k21_11
  have k22_12 := kt hg22 12 k21_12
  have k22_13 := kt hg22 13 k21_13
  have k22_72 := kt hg22 72 k21_72
  have k22_86 := kt hg22 86 (hB22.is 11)
  obtain ⟨W23, hW23⟩ : ∃ W', W' = W22.setRow (s14 1) #[.int .i64 ((widR b k hi off (widR b k lo off (1099511627776, -1099511627776))).1), .int .i64 ((widR b k hi off (widR b k lo off (1099511627776, -1099511627776))).2)] := ⟨_, rfl⟩
  refine tail_skip (o := _) rfl ⟨rfl, rfl⟩ (run_seg hW23 (fr_ev k22_12) (fr_ev k22_86) b22_3 rfl rfl rfl rfl) ?_
  obtain ⟨fB23, nb23, ot23, z23⟩ := seg_facts hW23 fB22 b22_3 (by omega)
  clear hW23
  have b23_0 := ot23 _ _ (by omega) b22_0
  have b23_1 := ot23 _ _ (by omega) b22_1
  have b23_2 := ot23 _ _ (by omega) b22_2
  have q375' := (q368'.other ot23 q369' (by omega) z23)
  have q376' := Nat.lt_of_lt_of_le q369' z23
  have q377' := (q370'.other ot23 q371' (by omega) z23)
  have q378' := Nat.lt_of_lt_of_le q371' z23
  have q379' := (q372'.other ot23 q373' (by omega) z23)
  have q380' := Nat.lt_of_lt_of_le q373' z23
  have q381' := (q374'.otherA ot23 (fun g o e hx => by have := lim247' g o e hx; omega) z23)
  refine wpOps_end ?_
  refine inBlock_normal ?_
  refine hK39 _ _ ?_
  refine region_dk 3 [(73, 0), (74, 1), (13, 2)] [[], [0], [0, 1]] (rel [is (.int .i64 1),
   is (.int .i64 2),
   is (.int .i64 2)])
   ⟨is_k, is_k, is_k, trivial⟩
   ⟨fun f s W l m p q r j => opv rfl rfl (by simp [go_sem, j.e 13 ((q 2 13 rfl rfl).trans k22_13)]) rfl,
  fun f s W l m p q r j => opv rfl rfl (by simp [go_sem, j.e 73 (m 0 rfl), IntWalk.i64_in (2) (by omega)]) rfl,
  fun f s W l m p q r j => opv rfl rfl (by simp [go_sem, j.e 74 (m 1 rfl)]) rfl, trivial⟩ ?_
  intro f24 s24 W24 hB24 g24 hg24
  have fB24 := hB24.f fB23
  have z24 := hB24.below.size
  have b24_0 := hB24.b b23_0
  have b24_1 := hB24.b b23_1
  have b24_2 := hB24.b b23_2
  have b24_3 := hB24.b nb23
  have q382' := (q375'.bw hB24)
  have q383' := (hB24.lt q376')
  have q384' := (q377'.bw hB24)
  have q385' := (hB24.lt q378')
  have q386' := (q379'.bw hB24)
  have q387' := (hB24.lt q380')
  have q388' := (q381'.bw hB24)
  refine wpOps_end ?_
  have k24_2 := kt hg24 2 k22_2
  have k24_3 := kt hg24 3 k22_3
  have k24_4 := kt hg24 4 k22_4
  have k24_6 := kt hg24 6 k22_6
  have k24_8 := kt hg24 8 k22_8
  have k24_11 := kt hg24 11 k22_11
  have k24_12 := kt hg24 12 k22_12
  have k24_72 := kt hg24 72 k22_72
  have k24_86 := kt hg24 86 k22_86
  have k24_13 := kt hg24 13 (hB24.is 2)
  refine then_normal ?_
  rw [rounds_succ]
  refine wp_seq_k fun K40 hK40 => ?_
  refine wp_seq_k fun K41 hK41 => ?_
  refine region_dk 2 [(71, 0), (72, 1)] [[], [0]] (rel [is (.int .i64 2),
   is (.bool false)])
   ⟨is_k, is_k, trivial⟩
   ⟨fun f s W l m p q r j => opv rfl rfl (by simp [go_sem, j.e 13 k24_13]) rfl,
  fun f s W l m p q r j => opv rfl rfl (by simp [go_sem, j.e 71 (m 0 rfl)]) rfl, trivial⟩ ?_
  intro f25 s25 W25 hB25 g25 hg25
  have fB25 := hB25.f fB24
  have z25 := hB25.below.size
  have b25_0 := hB25.b b24_0
  have b25_1 := hB25.b b24_1
  have b25_2 := hB25.b b24_2
  have b25_3 := hB25.b b24_3
  have q389' := (q382'.bw hB25)
  have q390' := (hB25.lt q383')
  have q391' := (q384'.bw hB25)
  have q392' := (hB25.lt q385')
  have q393' := (q386'.bw hB25)
  have q394' := (hB25.lt q387')
  have q395' := (q388'.bw hB25)
  refine hK41 _ _ ?_
  have k25_2 := kt hg25 2 k24_2
  have k25_3 := kt hg25 3 k24_3
  have k25_4 := kt hg25 4 k24_4
  have k25_6 := kt hg25 6 k24_6
  have k25_8 := kt hg25 8 k24_8
  have k25_11 := kt hg25 11 k24_11
  have k25_12 := kt hg25 12 k24_12
  have k25_86 := kt hg25 86 k24_86
  have k25_13 := kt hg25 13 k24_13
  have k25_72 := kt hg25 72 (hB25.is 1)
  refine wp_cond_false ((fr_eval rfl).trans k25_72) ?_
  refine wp_exit ?_
  refine then_exit ?_
  refine then_exit ?_
  refine inBlock_at ?_
  refine hK30 _ _ ?_
  refine wp_seq_k fun K43 hK43 => ?_
  refine region_dk 6 [(87, 0), (88, 1), (89, 2), (90, 3), (91, 4), (92, 5)] [[], [], [0, 1], [0, 1, 2], [], [0, 1, 2, 3, 4]] (rel [is (.slice (a244') (L.length) (c245')),
   is (.int .i64 ((k : Int))),
   is (.pointer (some ⟨bq, oq + k * 2, none⟩)),
   is (.agg #[.int .i64 ((widR b k hi off (widR b k lo off (1099511627776, -1099511627776))).1), .int .i64 ((widR b k hi off (widR b k lo off (1099511627776, -1099511627776))).2)]),
   is (.agg #[.int .i64 ((widR b k hi off (widR b k lo off (1099511627776, -1099511627776))).1), .int .i64 ((widR b k hi off (widR b k lo off (1099511627776, -1099511627776))).2)]),
   is (.bool false)])
   ⟨is_k, is_k, is_k, is_k, is_k, is_k, trivial⟩
   ⟨fun f s W l m p q r j => opv rfl rfl (by simp [go_sem, j.e 8 k25_8]) rfl,
  fun f s W l m p q r j => opv rfl rfl (by simp [go_sem, j.e 11 k25_11]) rfl,
  fun f s W l m p q r j => opv rfl rfl (by simp [go_sem, j.e 87 (m 0 rfl), j.e 88 (m 1 rfl), hab, lik]) rfl,
  fun f s W l m p q r j => by have cu := pp_get (i := k) (q395'.below l (Nat.le_refl _)) hab (by rw [hL9]; omega); have hv_ : L.getD k (0, 0) = (widR b k hi off (widR b k lo off (1099511627776, -1099511627776))) := (by rw [← hL]; exact hwd.symm); rw [hv_] at cu; have cx_ := cu.1; have cy_ := cu.2; exact opv rfl rfl (by simp [go_sem, j.e 89 (m 2 rfl), cx_, cy_]) rfl,
  fun f s W l m p q r j => opv rfl rfl (by simp [go_sem, j.e 12 k25_12, cb b25_3 l 0, cb b25_3 l 1]) rfl,
  fun f s W l m p q r j => opv rfl rfl (by simp [go_sem, j.e 90 (m 3 rfl), j.e 91 (m 4 rfl)]) rfl, trivial⟩ ?_
  intro f26 s26 W26 hB26 g26 hg26
  have fB26 := hB26.f fB25
  have z26 := hB26.below.size
  have b26_0 := hB26.b b25_0
  have b26_1 := hB26.b b25_1
  have b26_2 := hB26.b b25_2
  have b26_3 := hB26.b b25_3
  have q396' := (q389'.bw hB26)
  have q397' := (hB26.lt q390')
  have q398' := (q391'.bw hB26)
  have q399' := (hB26.lt q392')
  have q400' := (q393'.bw hB26)
  have q401' := (hB26.lt q394')
  have q402' := (q395'.bw hB26)
  refine hK43 _ _ ?_
  have k26_2 := kt hg26 2 k25_2
  have k26_3 := kt hg26 3 k25_3
  have k26_4 := kt hg26 4 k25_4
  have k26_6 := kt hg26 6 k25_6
  have k26_8 := kt hg26 8 k25_8
  have k26_11 := kt hg26 11 k25_11
  have k26_92 := kt hg26 92 (hB26.is 5)
  refine wp_cond_false ((fr_eval rfl).trans k26_92) ?_
  refine wp_skip ?_
  refine inBlock_normal ?_
  refine hK28 _ _ ?_
  refine region_dk 3 [(68, 0), (69, 1), (11, 2)] [[], [0], [0, 1]] (rel [is (.int .i64 ((k : Int))),
   is (.int .i64 ((k : Int) + 1)),
   is (.int .i64 ((k : Int) + 1))])
   ⟨is_k, is_k, is_k, trivial⟩
   ⟨fun f s W l m p q r j => opv rfl rfl (by simp [go_sem, j.e 11 ((q 2 11 rfl rfl).trans k26_11)]) rfl,
  fun f s W l m p q r j => opv rfl rfl (by simp [go_sem, j.e 68 (m 0 rfl), IntWalk.i64_in ((k : Int) + 1) (by omega)]) rfl,
  fun f s W l m p q r j => opv rfl rfl (by simp [go_sem, j.e 69 (m 1 rfl)]) rfl, trivial⟩ ?_
  intro f27 s27 W27 hB27 g27 hg27
  have fB27 := hB27.f fB26
  have z27 := hB27.below.size
  have b27_0 := hB27.b b26_0
  have b27_1 := hB27.b b26_1
  have b27_2 := hB27.b b26_2
  have b27_3 := hB27.b b26_3
  have q403' := (q396'.bw hB27)
  have q404' := (hB27.lt q397')
  have q405' := (q398'.bw hB27)
  have q406' := (hB27.lt q399')
  have q407' := (q400'.bw hB27)
  have q408' := (hB27.lt q401')
  have q409' := (q402'.bw hB27)
  refine wpOps_end ?_
  have k27_2 := kt hg27 2 k26_2
  have k27_3 := kt hg27 3 k26_3
  have k27_4 := kt hg27 4 k26_4
  have k27_6 := kt hg27 6 k26_6
  have k27_8 := kt hg27 8 k26_8
  have k27_11 := kt hg27 11 (hB27.is 2)
  refine then_normal ?_
  exact ⟨_, by omega, g27, rfl, k + 1, rfl, k27_2, k27_3, k27_4, k27_6, k27_8, k27_11.trans (by go_num), fB27, (by omega), b27_0, b27_1, b27_2, q403', q404', q405', q406', q407', q408', q409', (by omega)⟩
 ·
  have hc27' := hc27; try simp only [ba] at hc27'
  refine wp_exit ?_
  refine then_exit ?_
  refine then_exit ?_
  refine inBlock_at ?_
  refine hK23 _ _ ?_
  refine wp_seq_k fun K45 hK45 => ?_
  refine region_dk 2 [(93, 0), (6, 1)] [[], [0]] (rel [is (.bool true),
   is (.bool true)])
   ⟨is_k, is_k, trivial⟩
   ⟨fun f s W l m p q r j => opc rfl rfl (by simp [go_sem]) (known_any W),
  fun f s W l m p q r j => opv rfl rfl (by simp [go_sem, j.e 93 (m 0 rfl)]) rfl, trivial⟩ ?_
  intro f28 s28 W28 hB28 g28 hg28
  have fB28 := hB28.f fB13
  have z28 := hB28.below.size
  have b28_0 := hB28.b b13_0
  have b28_1 := hB28.b b13_1
  have b28_2 := hB28.b b13_2
  have q410' := (q305'.bw hB28)
  have q411' := (hB28.lt q306')
  have q412' := (q307'.bw hB28)
  have q413' := (hB28.lt q308')
  have q414' := (q309'.bw hB28)
  have q415' := (hB28.lt q310')
  have q416' := (q311'.bw hB28)
  refine hK45 _ _ ?_
  have k28_6 := kt hg28 6 (hB28.is 1)
  refine wp_ret ?_
  refine leave_one (N := 94) (v := .bool true) (.inr rfl) Tryz.results3 rfl k28_6 ?_
  exact ⟨rfl, fB28⟩
theorem inners_law (a1 a2 a3 : Option Addr) (c1 c2 c3 : Nat) (b : Bl) (lo hi off : Int) (w : World) (h1 : Ii w a1 b.panels.length c1 b.panels) (h2 : Ii w a2 b.top.length c2 b.top) (h3 : Ii w a3 b.bottom.length c3 b.bottom) (hof : -9223372036854775808 ≤ off ∧ off ≤ 9223372036854775807) : Calls Tryz.prog 3 #[.agg #[.int .i64 b.tab, .slice (a1) (b.panels.length) (c1), .int .i64 b.height, .slice (a2) (b.top.length) (c2), .slice (a3) (b.bottom.length) (c3), .int .i64 b.slot, .bool b.isOpen], .agg #[.int .i64 lo, .int .i64 hi], .int .i64 off] w (fun e w' => e = .returned (.bool true) ∧ Below w.heap.size w w') := by
  cases hl : largeB b with
  | true => exact inners_large a1 a2 a3 c1 c2 c3 b lo hi off w h1 h2 h3 hl
  | false =>
    by_cases hck : checkErr b = 0
    · cases hsp : isSpan (lo, hi) 1 10000 with
      | false => exact inners_bad2 a1 a2 a3 c1 c2 c3 b lo hi off w h1 h2 h3 hof hl hck hsp
      | true =>
        cases hio : inB off 0 5 with
        | false => exact inners_bad3 a1 a2 a3 c1 c2 c3 b lo hi off w h1 h2 h3 hof hl hck hsp hio
        | true => exact inners_good a1 a2 a3 c1 c2 c3 b lo hi off w h1 h2 h3 hof _ hl hck hsp hio rfl
    · exact inners_bad1 a1 a2 a3 c1 c2 c3 b lo hi off w h1 h2 h3 hof hl _ rfl (bne_iff_ne.2 hck)
end Go.Proofs.YthnediamopehfaaGreat
