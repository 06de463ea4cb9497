/- Part of the proof: what the claim leans on. -/
import Derived.Test.YthnediamopehfaaWAO
set_option linter.unusedSimpArgs false
set_option linter.unusedVariables false
namespace Go.Proofs.Ythnediamopehfaa
open Go.RowKit
set_option maxRecDepth 100000 in
set_option maxHeartbeats 400000 in
theorem span_any (lo hi : Int) (w : World) :
  Calls Try.prog 18 #[.int .i64 lo, .int .i64 hi] w (fun e w' => e = .returned (.agg #[.int .i64 lo, .int .i64 hi]) ∧ Below w.heap.size w w') := by
 refine calls_fr Try.func18 Try.ntmps18 rfl rfl fun g hg => ?_
 have k0 : g 0 = .int .i64 lo := hg 0
 have k1 : g 1 = .int .i64 hi := hg 1
 clear hg
 have fB0 : Below w.heap.size w w := Below.refl _ _
 refine wp_seq_k fun K1 hK1 => ?_
 refine region_dk 1 [(4, 0)] [[]] (rel [bx 0 #[.int .i64 0, .int .i64 0] 37])
  ⟨bx_k, trivial⟩
  ⟨fun f s W c d h i a ha => opb rfl rfl (by simp [go_sem]), trivial⟩ ?_
 intro f1 s1 W1 hB1 g1 hg1
 have fB1 := hB1.f fB0
 have z1 := hB1.below.size
 obtain ⟨r1_0, br1_0⟩ := hB1.is 0
 have lr1_0 := hB1.lr 0 br1_0
 refine hK1 _ _ ?_
 have k1_0 := kt hg1 0 k0
 have k1_1 := kt hg1 1 k1
 have k1_4 := kt hg1 4 r1_0
 refine wp_seq_k fun K2 hK2 => ?_
 refine region_dk 3 [(5, 0), (6, 1), (7, 2)] [[], [], [0, 1], [0, 1, 2]] (rel [is (.int .i64 lo),
   is (.int .i64 hi),
   is (.agg #[.int .i64 lo, .int .i64 hi])])
  ⟨is_k, is_k, is_k, trivial⟩
  ⟨fun f s W c d h i a ha => opv rfl rfl (by simp [go_sem, ha.e 0 k1_0]) rfl,
  fun f s W c d h i a ha => opv rfl rfl (by simp [go_sem, ha.e 1 k1_1]) rfl,
  fun f s W c d h i a ha => opv rfl rfl (by simp [go_sem, ha.e 5 (d 0 rfl), ha.e 6 (d 1 rfl)]) rfl, trivial⟩ ?_
 intro f2 s2 W2 hB2 g2 hg2
 have fB2 := hB2.f fB1
 have z2 := hB2.below.size
 have b2_0 := hB2.b br1_0
 have k2_4 := kt hg2 4 k1_4
 have k2_7 := kt hg2 7 (hB2.is 2)
 obtain ⟨W3, hW3⟩ : ∃ W', W' = W2.setRow (s1 0) #[.int .i64 lo, .int .i64 hi] := ⟨_, rfl⟩
 refine tail_skip (o := _) rfl ⟨rfl, rfl⟩ (run_seg hW3 (fr_ev k2_4) (fr_ev k2_7) b2_0 rfl rfl rfl rfl) ?_
 obtain ⟨fB3, nb3, ot3, z3⟩ := seg_facts hW3 fB2 b2_0 (by omega)
 clear hW3
 refine wpOps_end ?_
 refine hK2 _ _ ?_
 refine wp_ret ?_
 refine leave_gen (v := .agg #[.int .i64 lo, .int .i64 hi]) (.inr rfl) (by simp [results, Try.results18, go_sem, frv 8 k2_4, cl nb3 0, cl nb3 1]) ?_
 exact ⟨rfl, fB3⟩
def boxOf (long wide : Int) : Bl := ⟨35, [long, wide, long, wide], 208, [101, 101], [101, 101], 6, false⟩
set_option maxRecDepth 100000 in
set_option maxHeartbeats 400000 in
theorem box_any (long wide : Int) (w : World) :
  Calls Try.prog 29 #[.int .i64 long, .int .i64 wide] w (NwBlkP (boxOf long wide) w) := by
 refine calls_fr Try.func29 Try.ntmps29 rfl rfl fun g hg => ?_
 have k0 : g 0 = .int .i64 long := hg 0
 have k1 : g 1 = .int .i64 wide := hg 1
 clear hg
 have fB0 : Below w.heap.size w w := Below.refl _ _
 refine wp_seq_k fun K1 hK1 => ?_
 refine region_dk 1 [(4, 0)] [[]] (rel [bx 0 #[.int .i64 0, .slice (none) (0) (0), .int .i64 0, .slice (none) (0) (0), .slice (none) (0) (0), .int .i64 0, .bool false] 24])
  ⟨bx_k, trivial⟩
  ⟨fun f s W c d i j a ha => opb rfl rfl (by simp [go_sem]), trivial⟩ ?_
 intro f1 s1 W1 hB1 g1 hg1
 have fB1 := hB1.f fB0
 have z1 := hB1.below.size
 obtain ⟨r1_0, br1_0⟩ := hB1.is 0
 have lr1_0 := hB1.lr 0 br1_0
 refine hK1 _ _ ?_
 have k1_0 := kt hg1 0 k0
 have k1_1 := kt hg1 1 k1
 have k1_4 := kt hg1 4 r1_0
 refine wp_seq_k fun K2 hK2 => ?_
 refine region_dk 8 [(5, 0), (6, 1), (7, 2), (8, 3), (9, 4), (10, 5), (11, 6), (12, 7)] [[], [], [], [], [0, 1, 2, 3], [], [], [0, 1, 2, 3, 4, 5, 6], [0, 1, 2, 3, 4, 5, 6, 7]] (rel [is (.int .i64 long),
   is (.int .i64 wide),
   is (.int .i64 long),
   is (.int .i64 wide),
   row 4 4 #[.int .i64 long, .int .i64 wide, .int .i64 long, .int .i64 wide] 3,
   row 5 2 #[.int .i64 101, .int .i64 101] 3,
   row 6 2 #[.int .i64 101, .int .i64 101] 3,
   isS fun s => .agg #[.int .i64 35, .slice (some ⟨(s 4), 0, none⟩) (4) (4), .int .i64 208, .slice (some ⟨(s 5), 0, none⟩) (2) (2), .slice (some ⟨(s 6), 0, none⟩) (2) (2), .int .i64 6, .bool false]])
  ⟨is_k, is_k, is_k, is_k, row_k, row_k, row_k, isS_k fun s s' e => by rw [e 4 (by simp), e 5 (by simp), e 6 (by simp)], trivial⟩
  ⟨fun f s W c d i j a ha => opv rfl rfl (by simp [go_sem, ha.e 0 k1_0]) rfl,
  fun f s W c d i j a ha => opv rfl rfl (by simp [go_sem, ha.e 1 k1_1]) rfl,
  fun f s W c d i j a ha => opv rfl rfl (by simp [go_sem, ha.e 0 k1_0]) rfl,
  fun f s W c d i j a ha => opv rfl rfl (by simp [go_sem, ha.e 1 k1_1]) rfl,
  fun f s W c d i j a ha => opr rfl rfl (by simp [go_sem, ha.e 5 (d 0 rfl), ha.e 6 (d 1 rfl), ha.e 7 (d 2 rfl), ha.e 8 (d 3 rfl)]),
  fun f s W c d i j a ha => opr rfl rfl (by simp [go_sem]),
  fun f s W c d i j a ha => opr rfl rfl (by simp [go_sem]),
  fun f s W c d i j a ha => opv rfl rfl (by simp [go_sem, ha.e 9 (d 4 rfl).1, ha.e 10 (d 5 rfl).1, ha.e 11 (d 6 rfl).1, upd]) rfl, trivial⟩ ?_
 intro f2 s2 W2 hB2 g2 hg2
 have fB2 := hB2.f fB1
 have z2 := hB2.below.size
 have b2_0 := hB2.b br1_0
 obtain ⟨r2_4, br2_4⟩ := hB2.is 4
 have lr2_4 := hB2.lr 4 br2_4
 obtain ⟨r2_5, br2_5⟩ := hB2.is 5
 have lr2_5 := hB2.lr 5 br2_5
 obtain ⟨r2_6, br2_6⟩ := hB2.is 6
 have lr2_6 := hB2.lr 6 br2_6
 have ne2_4_5 : s2 4 ≠ s2 5 := hB2.ne 4 5 (by decide) (by decide) (by decide) (fun _ _ _ h => lt_of_blk h.2) (fun _ _ _ h => lt_of_blk h.2)
 have ne2_4_6 : s2 4 ≠ s2 6 := hB2.ne 4 6 (by decide) (by decide) (by decide) (fun _ _ _ h => lt_of_blk h.2) (fun _ _ _ h => lt_of_blk h.2)
 have ne2_5_6 : s2 5 ≠ s2 6 := hB2.ne 5 6 (by decide) (by decide) (by decide) (fun _ _ _ h => lt_of_blk h.2) (fun _ _ _ h => lt_of_blk h.2)
 have k2_4 := kt hg2 4 k1_4
 have k2_12 := kt hg2 12 (hB2.is 7)
 obtain ⟨W3, hW3⟩ : ∃ W', W' = W2.setRow (s1 0) #[.int .i64 35, .slice (some ⟨(s2 4), 0, none⟩) (4) (4), .int .i64 208, .slice (some ⟨(s2 5), 0, none⟩) (2) (2), .slice (some ⟨(s2 6), 0, none⟩) (2) (2), .int .i64 6, .bool false] := ⟨_, rfl⟩
 refine tail_skip (o := _) rfl ⟨rfl, rfl⟩ (run_seg hW3 (fr_ev k2_4) (fr_ev k2_12) b2_0 rfl rfl rfl rfl) ?_
 obtain ⟨fB3, nb3, ot3, z3⟩ := seg_facts hW3 fB2 b2_0 (by omega)
 clear hW3
 have b3_1 := ot3 _ _ (by omega) br2_4
 have b3_2 := ot3 _ _ (by omega) br2_5
 have b3_3 := ot3 _ _ (by omega) br2_6
 refine wpOps_end ?_
 refine hK2 _ _ ?_
 refine wp_ret ?_
 refine leave_gen (v := .agg #[.int .i64 35, .slice (some ⟨(s2 4), 0, none⟩) (4) (4), .int .i64 208, .slice (some ⟨(s2 5), 0, none⟩) (2) (2), .slice (some ⟨(s2 6), 0, none⟩) (2) (2), .int .i64 6, .bool false]) (.inr rfl) (by simp [results, Try.results29, go_sem, frv 13 k2_4, cl nb3 0, cl nb3 1, cl nb3 2, cl nb3 3, cl nb3 4, cl nb3 5, cl nb3 6]) ?_
 exact ⟨_, rfl, ⟨_, _, _, _, _, _, rfl, ⟨ii_block (xs := [long, wide, long, wide]) b3_1 rfl rfl, by omega, lt_of_blk b3_1⟩, ⟨ii_block (xs := [101, 101]) b3_2 rfl rfl, by omega, lt_of_blk b3_2⟩, ⟨ii_block (xs := [101, 101]) b3_3 rfl rfl, by omega, lt_of_blk b3_3⟩⟩, fB3⟩
def wishV : Value := .agg #[.int .i64 300, .int .i64 301, .int .i64 200, .int .i64 201, .int .i64 200, .int .i64 202, .int .i64 (-3), .int .i64 0, .int .i64 0, .int .i64 200, .bool false]
set_option maxRecDepth 100000 in
set_option maxHeartbeats 400000 in
theorem wish2_any (w : World) :
  Calls Try.prog 31 #[] w (fun e w' => e = .returned wishV ∧ Below w.heap.size w w') := by
 refine calls_fr Try.func31 Try.ntmps31 rfl rfl fun g hg => ?_
 clear hg
 have fB0 : Below w.heap.size w w := Below.refl _ _
 refine wp_seq_k fun K1 hK1 => ?_
 refine region_dk 1 [(0, 0)] [[]] (rel [bx 0 #[.int .i64 0, .int .i64 0, .int .i64 0, .int .i64 0, .int .i64 0, .int .i64 0, .int .i64 0, .int .i64 0, .int .i64 0, .int .i64 0, .bool false] 69])
  ⟨bx_k, trivial⟩
  ⟨fun f s W c d h i a ha => opb rfl rfl (by simp [go_sem]), trivial⟩ ?_
 intro f1 s1 W1 hB1 g1 hg1
 have fB1 := hB1.f fB0
 have z1 := hB1.below.size
 obtain ⟨r1_0, br1_0⟩ := hB1.is 0
 have lr1_0 := hB1.lr 0 br1_0
 refine hK1 _ _ ?_
 have k1_0 := kt hg1 0 r1_0
 refine wp_seq_k fun K2 hK2 => ?_
 refine region_dk 6 [(1, 0), (2, 1), (3, 2), (4, 3), (5, 4), (6, 5)] [[], [0], [0, 1], [0, 1, 2], [0, 1, 2, 3], [0, 1, 2, 3, 4], [0, 1, 2, 3, 4, 5]] (rel [is (.agg #[.int .i64 300, .int .i64 301]),
   is (.agg #[.int .i64 200, .int .i64 201]),
   is (.agg #[.int .i64 200, .int .i64 202]),
   is (.agg #[.int .i64 (-3), .int .i64 0]),
   is (.agg #[.int .i64 0, .int .i64 200]),
   is (.agg #[.int .i64 300, .int .i64 301, .int .i64 200, .int .i64 201, .int .i64 200, .int .i64 202, .int .i64 (-3), .int .i64 0, .int .i64 0, .int .i64 200, .bool false])])
  ⟨is_k, is_k, is_k, is_k, is_k, is_k, trivial⟩
  ⟨fun f s W c d h i a ha => opc rfl rfl (by simp [go_sem]) (span_any (300) (301) W),
  fun f s W c d h i a ha => opc rfl rfl (by simp [go_sem]) (span_any (200) (201) W),
  fun f s W c d h i a ha => opc rfl rfl (by simp [go_sem]) (span_any (200) (202) W),
  fun f s W c d h i a ha => opc rfl rfl (by simp [go_sem]) (span_any (-3) (0) W),
  fun f s W c d h i a ha => opc rfl rfl (by simp [go_sem]) (span_any (0) (200) W),
  fun f s W c d h i a ha => opv rfl rfl (by simp [go_sem, ha.e 1 (d 0 rfl), ha.e 2 (d 1 rfl), ha.e 3 (d 2 rfl), ha.e 4 (d 3 rfl), ha.e 5 (d 4 rfl)]) rfl, trivial⟩ ?_
 intro f2 s2 W2 hB2 g2 hg2
 have fB2 := hB2.f fB1
 have z2 := hB2.below.size
 have b2_0 := hB2.b br1_0
 have k2_0 := kt hg2 0 k1_0
 have k2_6 := kt hg2 6 (hB2.is 5)
 obtain ⟨W3, hW3⟩ : ∃ W', W' = W2.setRow (s1 0) #[.int .i64 300, .int .i64 301, .int .i64 200, .int .i64 201, .int .i64 200, .int .i64 202, .int .i64 (-3), .int .i64 0, .int .i64 0, .int .i64 200, .bool false] := ⟨_, rfl⟩
 refine tail_skip (o := _) rfl ⟨rfl, rfl⟩ (run_seg hW3 (fr_ev k2_0) (fr_ev k2_6) b2_0 rfl rfl rfl rfl) ?_
 obtain ⟨fB3, nb3, ot3, z3⟩ := seg_facts hW3 fB2 b2_0 (by omega)
 clear hW3
 refine wpOps_end ?_
 refine hK2 _ _ ?_
 refine wp_ret ?_
 refine leave_gen (v := .agg #[.int .i64 300, .int .i64 301, .int .i64 200, .int .i64 201, .int .i64 200, .int .i64 202, .int .i64 (-3), .int .i64 0, .int .i64 0, .int .i64 200, .bool false]) (.inr rfl) (by simp [results, Try.results31, go_sem, frv 7 k2_0, cl nb3 0, cl nb3 1, cl nb3 2, cl nb3 3, cl nb3 4, cl nb3 5, cl nb3 6, cl nb3 7, cl nb3 8, cl nb3 9, cl nb3 10]) ?_
 exact ⟨rfl, fB3⟩
set_option maxRecDepth 100000 in
set_option maxHeartbeats 400000 in
theorem own_any (a1 a2 a3 : Option Addr) (c1 c2 c3 : Nat) (b : Bl) (w : World) (h1 : Ii w a1 b.panels.length c1 b.panels) (h2 : Ii w a2 b.top.length c2 b.top) (h3 : Ii w a3 b.bottom.length c3 b.bottom) (n1 : b.panels.length ≤ 1000) (n2 : b.top.length ≤ 1000) (n3 : b.bottom.length ≤ 1000) :
  Calls Try.prog 9 #[.agg #[.int .i64 b.tab, .slice (a1) (b.panels.length) (c1), .int .i64 b.height, .slice (a2) (b.top.length) (c2), .slice (a3) (b.bottom.length) (c3), .int .i64 b.slot, .bool b.isOpen]] w (NwBlkP b w) := by
 refine calls_fr Try.func9 Try.ntmps9 rfl rfl fun g hg => ?_
 have k0 : g 0 = .agg #[.int .i64 b.tab, .slice (a1) (b.panels.length) (c1), .int .i64 b.height, .slice (a2) (b.top.length) (c2), .slice (a3) (b.bottom.length) (c3), .int .i64 b.slot, .bool b.isOpen] := hg 0
 clear hg
 have fB0 : Below w.heap.size w w := Below.refl _ _
 refine wp_seq_k fun K1 hK1 => ?_
 refine region_dk 2 [(1, 0), (2, 1)] [[], []] (rel [bx 0 #[.int .i64 b.tab, .slice (a1) (b.panels.length) (c1), .int .i64 b.height, .slice (a2) (b.top.length) (c2), .slice (a3) (b.bottom.length) (c3), .int .i64 b.slot, .bool b.isOpen] 24,
   bx 1 #[.int .i64 0, .slice (none) (0) (0), .int .i64 0, .slice (none) (0) (0), .slice (none) (0) (0), .int .i64 0, .bool false] 24])
  ⟨bx_k, bx_k, trivial⟩
  ⟨fun f s W c d i j a ha => opb rfl rfl (by simp [go_sem, ha.e 0 k0]),
  fun f s W c d i j a ha => opb rfl rfl (by simp [go_sem]), trivial⟩ ?_
 intro f1 s1 W1 hB1 g1 hg1
 have fB1 := hB1.f fB0
 have z1 := hB1.below.size
 obtain ⟨r1_0, br1_0⟩ := hB1.is 0
 have lr1_0 := hB1.lr 0 br1_0
 obtain ⟨r1_1, br1_1⟩ := hB1.is 1
 have lr1_1 := hB1.lr 1 br1_1
 have ne1_0_1 : s1 0 ≠ s1 1 := hB1.ne 0 1 (by decide) (by decide) (by decide) (fun _ _ _ h => lt_of_blk h.2) (fun _ _ _ h => lt_of_blk h.2)
 refine hK1 _ _ ?_
 have k1_1 := kt hg1 1 r1_0
 have k1_2 := kt hg1 2 r1_1
 refine wp_seq_k fun K2 hK2 => ?_
 refine region_dk 2 [(3, 0), (4, 1)] [[], [0], [0, 1]] (rel [is (.agg #[.int .i64 b.tab, .slice (a1) (b.panels.length) (c1), .int .i64 b.height, .slice (a2) (b.top.length) (c2), .slice (a3) (b.bottom.length) (c3), .int .i64 b.slot, .bool b.isOpen]),
   fun v s W => NwBlk (s 1) (b) v W])
  ⟨is_k, ⟨fun v k W W' hb h => h.below hb, fun v s s' W e h => by have h' : NwBlk (s 1) (b) v W := h; show NwBlk (s' 1) (b) v W; rw [← e 1 (by simp)]; exact h'⟩, trivial⟩
  ⟨fun f s W c d i j a ha => opv rfl rfl (by simp [go_sem, ha.e 1 k1_1, cb br1_0 c 0, cb br1_0 c 1, cb br1_0 c 2, cb br1_0 c 3, cb br1_0 c 4, cb br1_0 c 5, cb br1_0 c 6]) rfl,
  fun f s W c d i j a ha => by have l := below_trans fB1 c; exact opDo_call rfl rfl (by simp [go_sem, ha.e 3 (d 0 rfl)]) (copy_any a1 a2 a3 c1 c2 c3 b W (h1.below l (Nat.le_refl _)) (h2.below l (Nat.le_refl _)) (h3.below l (Nat.le_refl _)) n1 n2 n3) (fun e W' h => by obtain ⟨v, e1, h1, h2⟩ := h; exact ⟨v, e1, h2, (show NwBlk (upd s 1 W.heap.size 1) (b) v W' from by rw [upd_at]; exact h1)⟩), trivial⟩ ?_
 intro f2 s2 W2 hB2 g2 hg2
 have fB2 := hB2.f fB1
 have z2 := hB2.below.size
 have b2_0 := hB2.b br1_0
 have b2_1 := hB2.b br1_1
 obtain ⟨g1', c4', g2', c5', g3', c6', r2_1, ⟨q7', q9', q8'⟩, ⟨q10', q12', q11'⟩, ⟨q13', q15', q14'⟩⟩ := hB2.is 1
 have la2_1 := hB2.from' 1 (by decide)
 have k2_2 := kt hg2 2 k1_2
 have k2_4 := kt hg2 4 r2_1
 obtain ⟨W3, hW3⟩ : ∃ W', W' = W2.setRow (s1 1) #[.int .i64 b.tab, .slice (some ⟨g1', 0, none⟩) (b.panels.length) (c4'), .int .i64 b.height, .slice (some ⟨g2', 0, none⟩) (b.top.length) (c5'), .slice (some ⟨g3', 0, none⟩) (b.bottom.length) (c6'), .int .i64 b.slot, .bool b.isOpen] := ⟨_, rfl⟩
 refine tail_skip (o := _) rfl ⟨rfl, rfl⟩ (run_seg hW3 (fr_ev k2_2) (fr_ev k2_4) b2_1 rfl rfl rfl rfl) ?_
 obtain ⟨fB3, nb3, ot3, z3⟩ := seg_facts hW3 fB2 b2_1 (by omega)
 clear hW3
 have b3_0 := ot3 _ _ (by omega) b2_0
 have q16' := (q7'.other ot3 q8' (by omega) z3)
 have q17' := Nat.lt_of_lt_of_le q8' z3
 have q18' := (q10'.other ot3 q11' (by omega) z3)
 have q19' := Nat.lt_of_lt_of_le q11' z3
 have q20' := (q13'.other ot3 q14' (by omega) z3)
 have q21' := Nat.lt_of_lt_of_le q14' z3
 refine wpOps_end ?_
 refine hK2 _ _ ?_
 refine wp_ret ?_
 refine leave_gen (v := .agg #[.int .i64 b.tab, .slice (some ⟨g1', 0, none⟩) (b.panels.length) (c4'), .int .i64 b.height, .slice (some ⟨g2', 0, none⟩) (b.top.length) (c5'), .slice (some ⟨g3', 0, none⟩) (b.bottom.length) (c6'), .int .i64 b.slot, .bool b.isOpen]) (.inr rfl) (by simp [results, Try.results9, go_sem, frv 5 k2_2, cl nb3 0, cl nb3 1, cl nb3 2, cl nb3 3, cl nb3 4, cl nb3 5, cl nb3 6]) ?_
 exact ⟨_, rfl, ⟨_, _, _, _, _, _, rfl, ⟨q16', by omega, q17'⟩, ⟨q18', by omega, q19'⟩, ⟨q20', by omega, q21'⟩⟩, fB3⟩
end Go.Proofs.Ythnediamopehfaa
namespace Go.Proofs.Ythnediamopehfaa
open Go.RowKit
def spanR (lo hi least most : Int) : Bool := inB lo least hi && decide (hi ≤ most)
def panR (b : Bl) (k : Nat) (c : Int) : Int := 1000 * b.panels.getD k 0 - c
def heightR (b : Bl) (c : Int) : Int := if b.isOpen = true then 1000 * b.height - c else 1000 * b.height - c - c
def NwIiP (xs : List Int) (w : World) (e : Ending) (w' : World) : Prop := ∃ v, e = .returned v ∧ NwIi w.heap.size xs v w' ∧ Below w.heap.size w w'
set_option maxRecDepth 100000 in
set_option maxHeartbeats 400000 in
theorem ints_any (a : Option Addr) (c : Nat) (xs : List Int) (w : World) (hI : Ii w a xs.length c xs) (hn : xs.length ≤ 1000) :
  Calls Try.prog 20 #[.slice (a) (xs.length) (c)] w (NwIiP xs w) := by
 refine calls_fr Try.func20 Try.ntmps20 rfl rfl fun g hg => ?_
 have k0 : g 0 = .slice (a) (xs.length) (c) := hg 0
 clear hg
 have fB0 : Below w.heap.size w w := Below.refl _ _
 refine wp_seq_k fun K1 hK1 => ?_
 refine region_dk 1 [(2, 0)] [[]] (rel [is (.slice (none) (0) (0))])
  ⟨is_k, trivial⟩
  ⟨fun f s W d i j k l b => opv rfl rfl (by simp [go_sem]) rfl, trivial⟩ ?_
 intro f1 s1 W1 hB1 g1 hg1
 have fB1 := hB1.f fB0
 have z1 := hB1.below.size
 refine hK1 _ _ ?_
 have k1_0 := kt hg1 0 k0
 have k1_2 := kt hg1 2 (hB1.is 0)
 refine wp_seq_k fun K2 hK2 => ?_
 refine region_dk 4 [(3, 0), (4, 1), (5, 2), (2, 3)] [[], [], [0, 1], [0, 1, 2]] (rel [row 0 0 #[] 3,
   is (.slice (a) (xs.length) (c)),
   ab fun v W => NwIi W1.heap.size (xs) v W,
   ab fun v W => NwIi W1.heap.size (xs) v W])
  ⟨row_k, is_k, ab_k fun v W W' hb h => h.below hb, ab_k fun v W W' hb h => h.below hb, trivial⟩
  ⟨fun f s W d i j k l b => opr rfl rfl (by simp [go_sem]),
  fun f s W d i j k l b => opv rfl rfl (by simp [go_sem, b.e 0 k1_0]) rfl,
  fun f s W d i j k l b => by have m := below_trans fB1 d; obtain ⟨v_, W_, r_, b_, i_⟩ := clone_run 22 W (s 0) (a) (c) (xs) ((hI.below m (Nat.le_refl _))) (hn) (i 0 rfl).2 W1.heap.size (j 0 rfl) d.size; exact opDo_value rfl rfl (run_appendOp (b.v 3 (i 0 rfl).1) (b.v 4 (i 1 rfl)) r_) b_ i_,
  fun f s W d i j k l b => opv (v := (f 2)) rfl rfl (by simp [go_sem, (b.at' 5 rfl : l.tmps[5]?.getD undef = f 2)] <;> rfl) (i 2 rfl), trivial⟩ ?_
 intro f2 s2 W2 hB2 g2 hg2
 have fB2 := hB2.f fB1
 have z2 := hB2.below.size
 obtain ⟨r2_0, br2_0⟩ := hB2.is 0
 have lr2_0 := hB2.lr 0 br2_0
 obtain ⟨g6', c7', r2_3, q8', q10', q9'⟩ := hB2.is 3
 refine hK2 _ _ ?_
 have k2_2 := kt hg2 2 r2_3
 refine wp_ret ?_
 refine leave_one (N := 6) (v := .slice (some ⟨g6', 0, none⟩) ((xs).length) (c7')) (.inr rfl) Try.results20 rfl k2_2 ?_
 exact ⟨_, rfl, ⟨_, _, rfl, q8', by omega, q9'⟩, fB2⟩
end Go.Proofs.Ythnediamopehfaa
